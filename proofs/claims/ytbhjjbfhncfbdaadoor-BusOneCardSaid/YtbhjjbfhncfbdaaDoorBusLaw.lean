/- BusOne: the law's walk. -/
import Derived.Test.YtbhjjbfhncfbdaaDoorHearErr
import Derived.Test.YtbhjjbfhncfbdaaDoorHeardFact
import Derived.Laws.StructEq
import Derived.Laws.Closers25
namespace Go.Proofs.YtbhjjbfhncfbdaaDoor
open Go.RowKit

set_option maxRecDepth 100000 in
theorem bus_guard (ea : Nat → Addr) (a a2 a3 : Option Addr) (n cap n2 cap2 n3 cap3 : Nat) (ss : List Snt) (long slot : Int) (w : World) (hg : Glob w ea [5, 7, 4, 2, 9]) (hc : n ≤ 4611686018427387904) (hn2 : ss.length = n2) (hr2 : RowAt w a2 (encSents ss)) (hc2 : n2 ≤ 4611686018427387904) (hc3 : n3 ≤ 4611686018427387904)
    (h : 40 < n ∨ longS ss = true ∨ 40 < n3) :
    Calls Tryd.prog 6 #[.slice a n cap, .int .i64 long, .int .i64 slot, .slice a2 n2 cap2, .slice a3 n3 cap3] w fun e w' => e = .returned (.bool true) ∧ Below w.heap.size w w' := by
  by_cases h1 : 40 < n
  · clear h
    go_enter Tryd.func6, Tryd.ntmps6
    go_wp2_with (go_at_call 25; refine (heard_any ea _ hg).mono ?_; rintro e w1 ⟨rfl, hb⟩)
    go_ret
    exact ⟨rfl, hb⟩
  · cases h2 : longS ss
    · have h3 : 40 < n3 := by simp only [h2, Bool.false_eq_true, false_or] at h; omega
      have H2 := Lib.hid h2
      clear h h2
      go_enter Tryd.func6, Tryd.ntmps6
      go_wp2_with (first
        | (go_at_call 25; refine (heard_any ea _ hg).mono ?_; rintro e w1 ⟨rfl, hb⟩)
        | (go_at_call 26; refine (longSent_any _ _ _ ss _ hn2 (hr2.below hb) hc2).mono ?_; rintro e w2 ⟨rfl, rfl⟩; rw [H2.out]))
      go_ret
      exact ⟨rfl, hb⟩
    · have H2 := Lib.hid h2
      clear h h2
      go_enter Tryd.func6, Tryd.ntmps6
      go_wp2_with (first
        | (go_at_call 25; refine (heard_any ea _ hg).mono ?_; rintro e w1 ⟨rfl, hb⟩)
        | (go_at_call 26; refine (longSent_any _ _ _ ss _ hn2 (hr2.below hb) hc2).mono ?_; rintro e w2 ⟨rfl, rfl⟩; rw [H2.out]))
      go_ret
      exact ⟨rfl, hb⟩

theorem longS_len {ss : List Snt} (h : longS ss = false) : ss.length ≤ 45 := by
  simp only [longS, Bool.or_eq_false_iff, decide_eq_false_iff_not] at h; omega

set_option maxRecDepth 100000 in
/-- The law where bus.Hear refuses. -/
theorem bus_err (ea : Nat → Addr) (a a2 a3 : Option Addr) (n cap n2 cap2 n3 cap3 : Nat) (l : List Int) (ss : List Snt) (long slot : Int) (w : World) (hg : Glob w ea [5, 7, 4, 2, 9])
    (hn : l.length = n) (hr : RowAt w a (encInts l)) (hn2 : ss.length = n2) (hr2 : RowAt w a2 (encSents ss)) (h1 : n ≤ 40) (h2 : longS ss = false) (h3 : n3 ≤ 40)
    (hE : ¬ hearB long slot ∨ (planF l).1 ≠ 0 ∨ 40 < n2) :
    Calls Tryd.prog 6 #[.slice a n cap, .int .i64 long, .int .i64 slot, .slice a2 n2 cap2, .slice a3 n3 cap3] w fun e w' => e = .returned (.bool true) ∧ Below w.heap.size w w' := by
  have hl := longS_len h2
  have H2 := Lib.hid h2
  have HN := Lib.hid hn
  have HN2 := Lib.hid hn2
  have hl2 : n2 ≤ 45 := by omega
  have C : Hid (∀ (W : World) (b2 : Option Addr) (c2 : Nat), Below w.heap.size w W → Calls Tryd.prog 27 #[.slice a n cap, .int .i64 long, .int .i64 slot, .slice b2 n2 c2, .slice a3 n3 cap3] W fun e w' => ∃ t x, e = .returned (.tuple #[.slice none 0 0, .iface t x]) ∧ Below W.heap.size W w') := by
    intro W b2 c2 hb
    by_cases hB : hearB long slot
    · by_cases hp : (planF l).1 = 0
      · have hf : 40 < n2 := by
          rcases hE with h | h | h
          · exact absurd hB h
          · exact absurd hp h
          · exact h
        exact (hear_full ea a b2 a3 n cap n2 c2 n3 cap3 l long slot W (hg.below hb) HN.out (hr.below hb) (by omega) hB hp hf).mono fun e w' ⟨h1, h2⟩ => ⟨129, .pointer (some (ea 7)), by rw [h1, errV_pos ea (by decide)], h2⟩
      · exact (hear_plan ea a b2 a3 n cap n2 c2 n3 cap3 l long slot W (hg.below hb) HN.out (hr.below hb) (by omega) hB hp).mono fun e w' ⟨v, h1, h2, h3⟩ => by
          obtain ⟨t, x, rfl⟩ := h2.held hp
          exact ⟨t, x, h1, h3⟩
    · exact (hear_bound ea a b2 a3 n cap n2 c2 n3 cap3 long slot W (hg.below hb) hB).mono fun e w' ⟨h1, h2⟩ => ⟨129, .pointer (some (ea 2)), by rw [h1, errV_pos ea (by decide)], h2⟩
  clear hE h2 hn hn2 hl
  go_enter Tryd.func6, Tryd.ntmps6
  go_wp2_with (first
    | (go_at_call 25; refine (heard_any ea _ hg).mono ?_; rintro e w1 ⟨rfl, hb⟩)
    | (go_at_call 26; refine (longSent_any _ _ _ ss _ HN2.out (hr2.below hb) (by omega)).mono ?_; rintro e w2 ⟨rfl, rfl⟩; rw [H2.out])
    | (go_at_call 28; refine (asSent_any _ _ _ ss _ HN2.out (hr2.below hb) (by omega)).mono ?_; rintro e w3 ⟨b2, c2, rfl, hr3, hc3, hb3⟩; have hb4 := hb.trans (hb3.mono hb.size))
    | (go_at_call 27; refine (C.out _ _ _ hb4).mono ?_; rintro e w5 ⟨t, x, rfl, hb5⟩; have hb6 := hb4.trans (hb5.mono hb4.size)))
  go_ret
  exact ⟨rfl, hb6⟩

/-- What the law counts. -/
def busP (l : List Int) (long slot : Int) (tx : ByteArray) (s : Snt) : Bool := decide (0 ≤ s.tick ∧ s.tick ≤ 1000000 ∧ s.node = whoV l slot.toNat ∧ s.text = tx ∧ s.tick / long = slot)

theorem isEmpty_of {x : ByteArray} (h : x = ByteArray.empty) : x.toList.isEmpty = true := by rw [← decide_eq_emptyBytes, decide_eq_true h]
theorem isEmpty_not {x : ByteArray} (h : x ≠ ByteArray.empty) : x.toList.isEmpty = false := by rw [← decide_eq_emptyBytes, decide_eq_false h]
theorem beq_not {x y : ByteArray} (h : x ≠ y) : (x.toList == y.toList) = false := by
  rw [beq_eq_false_iff_ne, ByteArray.toList_eq, ByteArray.toList_eq]
  intro e
  obtain ⟨⟨x⟩⟩ := x
  obtain ⟨⟨y⟩⟩ := y
  exact h (by simpa using e)
theorem beq_yes {x y : ByteArray} (h : x = y) : (x.toList == y.toList) = true := by rw [h]; simp
theorem outAt_some {hs : List ByteArray} {lost : List Int} {k : Nat} (h : outAt hs lost k ≠ ByteArray.empty) : hs = [outAt hs lost k] ∧ ((k : Int) + 1) ∉ lost := by
  match hs, h with
  | [], h => exact absurd rfl h
  | [t], h =>
    by_cases hin : ((k : Int) + 1) ∈ lost
    · exact absurd (by simp [outAt, hin]) h
    · exact ⟨by simp [outAt, hin], hin⟩
  | _ :: _ :: _, h => exact absurd rfl h

/-- One was heard, with that text: just one counts. -/
theorem busP_one {l : List Int} {long : Int} {sl : Nat} {tx : ByteArray} {ss : List Snt} (hp : (planF l).1 = 0) (hlong : 1 ≤ long) (hlong2 : long ≤ 1000000) (h : heardL l long sl ss = [tx]) :
    (ss.filter (busP l long sl tx)).length = 1 := by
  have he : ss.filter (busP l long sl tx) = ss.filter (isHeard l long sl) := by
    refine List.filter_congr (fun s hs => ?_)
    rw [busP, isHeard, decide_eq_decide]
    have hE : slotE long s.tick = 0 ↔ 0 ≤ s.tick ∧ s.tick ≤ 1000000 := by
      constructor
      · intro h; have := slotE_ok h; exact ⟨this.2.2.1, this.2.2.2⟩
      · intro h; rw [slotE, if_pos ⟨hlong, hlong2, h.1, h.2⟩]
    have hP : slotE long s.tick = 0 → s.tick / long = sl → ((passF l long s.node s.tick).1 = 0 ↔ whoV l sl = s.node) := by
      intro h1 h2
      rw [passF, if_neg (by simp [h1]), if_neg (by simp [hp]), h2, Int.toNat_natCast]
      by_cases h3 : whoV l sl = s.node <;> simp [h3]
    constructor
    · rintro ⟨h1, h2, h3, h4, h5⟩
      exact ⟨hE.2 ⟨h1, h2⟩, h5, (hP (hE.2 ⟨h1, h2⟩) h5).2 (by rw [h3, Int.toNat_natCast])⟩
    · rintro ⟨h1, h2, h3⟩
      have hm : s.text ∈ heardL l long sl ss := by
        rw [heardL]; exact List.mem_map.2 ⟨s, List.mem_filter.2 ⟨hs, by simp [isHeard, h1, h2, h3]⟩, rfl⟩
      rw [h, List.mem_singleton] at hm
      exact ⟨(hE.1 h1).1, (hE.1 h1).2, by rw [Int.toNat_natCast]; exact ((hP h1 h2).1 h3).symm, hm, h2⟩
  rw [he, ← List.length_map (f := Snt.text), ← heardL, h]; rfl

theorem filt_snoc {α : Type} (p : α → Bool) (l : List α) (k : Nat) (hk : k < l.length) : (((l.take (k + 1)).filter p).length : Int) = ((l.take k).filter p).length + (if p l[k] = true then 1 else 0) := by
  rw [List.take_succ_eq_append_getElem hk, List.filter_append, List.length_append]
  by_cases h : p l[k] = true
  · rw [if_pos h, List.filter_cons_of_pos h]; simp
  · rw [if_neg h, List.filter_cons_of_neg h]; simp

set_option maxRecDepth 100000 in
set_option maxHeartbeats 3200000 in
theorem bus_law (ea : Nat → Addr) (a a2 a3 : Option Addr) (n cap n2 cap2 n3 cap3 : Nat) (l : List Int) (ss : List Snt) (lost : List Int) (long : Int) (sl : Nat) (w : World) (hg : Glob w ea [5, 7, 4, 2, 9])
    (hn : l.length = n) (hr : RowAt w a (encInts l)) (hn2 : ss.length = n2) (hr2 : RowAt w a2 (encSents ss)) (hn3 : lost.length = n3) (hr3 : RowAt w a3 (encInts lost)) (h1 : n ≤ 40) (h2 : longS ss = false) (h3 : n3 ≤ 40)
    (hB : hearB long sl) (hp : (planF l).1 = 0) (hl : n2 ≤ 40) :
    Calls Tryd.prog 6 #[.slice a n cap, .int .i64 long, .int .i64 sl, .slice a2 n2 cap2, .slice a3 n3 cap3] w fun e w' => e = .returned (.bool true) ∧ Below w.heap.size w w' := by
  have H2 := Lib.hid h2
  have HN := Lib.hid hn
  have HN2 := Lib.hid hn2
  have HN3 := Lib.hid hn3
  have hs6 : sl ≤ 1000000 := by
    obtain ⟨q1, q2, q3, q4⟩ := hB
    have : (sl : Int) * 1 ≤ sl * long := Int.mul_le_mul_of_nonneg_left q1 q3
    omega
  have hR := Lib.hid (show (rightF l (sl : Int)).1 = 0 by rw [rightF_of l hs6, if_pos hp])
  have C := Lib.hid (fun (W : World) (b2 : Option Addr) (c2 : Nat) (hb : Below w.heap.size w W) (hr2' : RowAt W b2 (encSents ss)) => hear_ok ea a b2 a3 n cap n2 c2 n3 cap3 l ss lost long sl W (hg.below hb) hn (hr.below hb) (by omega) hn2 hr2' hn3 (hr3.below hb) (by omega) hB hp hl)
  have hlong : 1 ≤ long := hB.1
  have hlong2 : long ≤ 1000000 := hB.2.1
  have HP := Lib.hid hp
  clear h2 hn hn2 hn3 hp hB
  go_enter Tryd.func6, Tryd.ntmps6
  go_wp2_with (first
    | (go_at_call 25; refine (heard_any ea _ hg).mono ?_; rintro e w1 ⟨rfl, hb⟩)
    | (go_at_call 26; refine (longSent_any _ _ _ ss _ HN2.out (hr2.below hb) (by omega)).mono ?_; rintro e w2 ⟨rfl, rfl⟩; rw [H2.out])
    | (go_at_call 28; refine (asSent_any _ _ _ ss _ HN2.out (hr2.below hb) (by omega)).mono ?_; rintro e w3 ⟨b2, c2, rfl, hr3', hc3, hb3⟩; have hb4 := hb.trans (hb3.mono hb.size))
    | (go_at_call 27; refine (C.out _ _ _ hb4 hr3').mono ?_; rintro e w5 ⟨ax, cx, rfl, hrx, hb5⟩; have hb6 := hb4.trans (hb5.mono hb4.size); clear hb5 hb4 hb3 hr3')
    | (go_at_call 18; refine (who_ok ea _ _ _ l sl _ ((hg.below hb6).sub (by simp)) HN.out (hr.below hb6) hR.out).mono ?_; rintro e w7 ⟨rfl, hb7⟩; have hb8 := hb6.trans (hb7.mono hb6.size)))
  have hrx8 := hrx.below hb7
  clear hrx hb7 hb6 hb
  generalize hWH : whoV l sl = who at *
  have HWH : Hid (whoV l (sl : Int).toNat = who) := by unfold Hid; rw [Int.toNat_natCast]; exact hWH
  clear hWH
  go_loopw [15, 16] (fun tx i wr => ∃ (k : Nat) (t : ByteArray), k ≤ 16 ∧ i = .int .i64 k ∧ tx = .string t ∧ Hid (t = ByteArray.empty ∨ heardL l long sl ss = [t]) ∧ wr = w7) (fun _ i _ => 16 - (intOf i).toNat)
  case atStart => exact ⟨0, ByteArray.empty, by omega, rfl, rfl, Or.inl rfl, rfl⟩
  case round =>
    obtain ⟨k, t, hk, rfl, rfl, HT, rfl⟩ := hrel
    by_cases hlt : k < 16
    · have hkt : k < (outL (heardL l long sl ss) lost).length := by rw [outL_length]; exact hlt
      obtain ⟨b, off, rfl, hbl, c0⟩ := hrx8.str k hkt
      rw [outL_get] at c0
      have hi0 : (0 : Int) ≤ (k : Int) := by omega
      have hi1 : (k : Int) < 16 := by omega
      generalize hq : outAt (heardL l long sl ss) lost k = x at *
      have HQ := Lib.hid hq
      clear hq
      by_cases hx : x = ByteArray.empty
      · have hx1 := isEmpty_of hx
        clear hx
        go_wp2
        go_roundw
        case rel => exact ⟨k + 1, t, by omega, by go_num, rfl, HT, trivial⟩
        case measure => simp [intOf]; omega
      · have HX : Hid (heardL l long sl ss = [x] ∧ ((k : Int) + 1) ∉ lost) := by
          have h := outAt_some (hs := heardL l long sl ss) (lost := lost) (k := k) (by rw [HQ.out]; exact hx)
          unfold Hid; rw [HQ.out] at h; exact h
        have hx1 := isEmpty_not hx
        clear hx
        by_cases ht : t = ByteArray.empty
        · have ht1 := isEmpty_of ht
          clear ht
          go_wp2_with (go_at_call 11; refine (inInts_any _ _ _ _ lost _ HN3.out (hr3.below hb8) (by omega)).mono ?_; rintro e w9 ⟨rfl, rfl⟩; rw [decide_eq_false HX.out.2])
          go_roundw
          case rel => exact ⟨k + 1, x, by omega, by go_num, rfl, Or.inr HX.out.1, trivial⟩
          case measure => simp [intOf]; omega
        · obtain rfl : t = x := by
            have h1 := HT.out.resolve_left ht
            rw [HX.out.1] at h1
            exact (List.cons.inj h1).1.symm
          clear ht
          go_wp2_with (go_at_call 11; refine (inInts_any _ _ _ _ lost _ HN3.out (hr3.below hb8) (by omega)).mono ?_; rintro e w9 ⟨rfl, rfl⟩; rw [decide_eq_false HX.out.2])
          go_roundw
          case rel => exact ⟨k + 1, t, by omega, by go_num, rfl, HT, trivial⟩
          case measure => simp [intOf]; omega
    · by_cases ht : t = ByteArray.empty
      · have ht1 := isEmpty_of ht
        clear ht
        go_wp2
        go_ret
        exact ⟨rfl, hb8⟩
      · have HC := Lib.hid (busP_one (l := l) (sl := sl) HP.out hlong hlong2 (HT.out.resolve_left ht))
        have hlz : (long == 0) = false := by simp; omega
        have ht1 := isEmpty_not ht
        clear ht HT
        obtain rfl : k = 16 := by omega
        clear hk hlt
        go_wp2
        generalize hP0 : busP l long sl t = P0 at *
        have HP0 := Lib.hid hP0
        clear hP0 ht1
        go_loopw [18, 19] (fun c i wx => ∃ j : Nat, j ≤ n2 ∧ i = .int .i64 j ∧ c = .int .i64 ((ss.take j).filter P0).length ∧ wx = wr) (fun _ i _ => n2 - (intOf i).toNat)
        case atStart => exact ⟨0, Nat.zero_le _, rfl, rfl, rfl⟩
        case round =>
          obtain ⟨j, hj, rfl, rfl, rfl⟩ := hrel
          by_cases hlt : j < n2
          · have hjt : j < ss.length := by have := HN2.out; omega
            obtain ⟨b, off, rfl, hbl, c0, c1, c2⟩ := hr2.snt j hjt
            have e0 := (hb8.cell (p := ⟨b, off + j * 3, none⟩) hbl).trans c0
            have e1 := (hb8.cell (p := ⟨b, off + j * 3 + 1, none⟩) hbl).trans c1
            have e2 := (hb8.cell (p := ⟨b, off + j * 3 + 2, none⟩) hbl).trans c2
            have HF := Lib.hid (filt_snoc P0 ss j hjt)
            have hle : ((ss.take j).filter P0).length ≤ 40 := Nat.le_trans (List.length_filter_le _ _) (Nat.le_trans (List.length_take_le _ _) (by omega))
            have hi0 : (0 : Int) ≤ (j : Int) := by omega
            have hi1 : (j : Int) < (n2 : Int) := by omega
            generalize ss[j] = s at *
            generalize ((ss.take j).filter P0).length = cc at *
            clear hjt c0 c1 c2
            by_cases t1 : 0 ≤ s.tick ∧ s.tick ≤ 1000000 ∧ s.node = who ∧ s.text = t ∧ s.tick / long = sl
            · have HY : Hid (P0 s = true) := by unfold Hid; rw [← HP0.out, busP, HWH.out]; exact decide_eq_true t1
              obtain ⟨q1, q2, q3, q4, q5⟩ := t1
              have r3 : (s.node == who) = true := by simpa using q3
              have r4 := beq_yes q4
              have r5 : (s.tick / long == (sl : Int)) = true := by simpa using q5
              clear q3 q4 q5
              go_wp2
              go_roundw
              case rel => exact ⟨j + 1, by omega, by go_num, by rw [HF.out, HY.out]; first | rfl | go_num | simp, trivial⟩
              case measure => simp [intOf]; omega
            · have HY : Hid (P0 s = false) := by unfold Hid; rw [← HP0.out, busP, HWH.out]; exact decide_eq_false t1
              by_cases q1 : 0 ≤ s.tick
              · by_cases q2 : s.tick ≤ 1000000
                · by_cases q3 : s.node = who
                  · have r3 : (s.node == who) = true := by simpa using q3
                    by_cases q4 : s.text = t
                    · have r4 := beq_yes q4
                      have q5 : s.tick / long ≠ sl := fun e => t1 ⟨q1, q2, q3, q4, e⟩
                      have r5 : (s.tick / long == (sl : Int)) = false := by simpa using q5
                      clear q3 q4 q5 t1
                      go_wp2
                      go_roundw
                      case rel => exact ⟨j + 1, by omega, by go_num, by rw [HF.out, HY.out]; first | rfl | go_num | simp, trivial⟩
                      case measure => simp [intOf]; omega
                    · have r4 := beq_not q4
                      clear q3 q4 t1
                      go_wp2
                      go_roundw
                      case rel => exact ⟨j + 1, by omega, by go_num, by rw [HF.out, HY.out]; first | rfl | go_num | simp, trivial⟩
                      case measure => simp [intOf]; omega
                  · have r3 : (s.node == who) = false := by simpa using q3
                    clear q3 t1
                    go_wp2
                    go_roundw
                    case rel => exact ⟨j + 1, by omega, by go_num, by rw [HF.out, HY.out]; first | rfl | go_num | simp, trivial⟩
                    case measure => simp [intOf]; omega
                · have r2 : decide (s.tick ≤ 1000000) = false := by simpa using q2
                  clear q2 t1
                  go_wp2
                  go_roundw
                  case rel => exact ⟨j + 1, by omega, by go_num, by rw [HF.out, HY.out]; first | rfl | go_num | simp, trivial⟩
                  case measure => simp [intOf]; omega
              · have r1 : decide (0 ≤ s.tick) = false := by simpa using q1
                clear q1 t1
                go_wp2
                go_roundw
                case rel => exact ⟨j + 1, by omega, by go_num, by rw [HF.out, HY.out]; first | rfl | go_num | simp, trivial⟩
                case measure => simp [intOf]; omega
          · have ht : ss.take j = ss := List.take_of_length_le (by have := HN2.out; omega)
            rw [ht, HC.out]
            clear ht
            go_wp2
            go_ret
            exact ⟨rfl, hb8⟩

/-- The law's walk, whole. -/
theorem walk_BusOne (ea : Nat → Addr) (a : Option Addr) (n cap : Nat) (l : List Int) (long slot : Int) (a2 : Option Addr) (n2 cap2 : Nat) (ss : List Snt) (a3 : Option Addr) (n3 cap3 : Nat) (lost : List Int) (w : World) (hg : Glob w ea [2, 4, 5, 7, 9])
    (hn : l.length = n) (hr : RowAt w a (encInts l)) (_hc : n ≤ cap) (hb : n ≤ 4611686018427387904) (_h1 : -9223372036854775808 ≤ long ∧ long ≤ 9223372036854775807) (_h2 : -9223372036854775808 ≤ slot ∧ slot ≤ 9223372036854775807)
    (hn2 : ss.length = n2) (hr2 : RowAt w a2 (encSents ss)) (_hc2 : n2 ≤ cap2) (hb2 : n2 ≤ 4611686018427387904) (hn3 : lost.length = n3) (hr3 : RowAt w a3 (encInts lost)) (_hc3 : n3 ≤ cap3) (hb3 : n3 ≤ 4611686018427387904) :
    Calls Tryd.prog 6 #[.slice a n cap, .int .i64 long, .int .i64 slot, .slice a2 n2 cap2, .slice a3 n3 cap3] w fun e w' => e = .returned (.bool true) ∧ Below w.heap.size w w' := by
  have hg' : Glob w ea [5, 7, 4, 2, 9] := hg.sub (by simp)
  by_cases h : 40 < n ∨ longS ss = true ∨ 40 < n3
  · exact bus_guard ea a a2 a3 n cap n2 cap2 n3 cap3 ss long slot w hg' hb hn2 hr2 hb2 hb3 h
  · have h1 : n ≤ 40 := by omega
    have h3 : n3 ≤ 40 := by omega
    have h2 : longS ss = false := by
      cases hl : longS ss
      · rfl
      · exact absurd (Or.inr (Or.inl hl)) h
    by_cases hE : ¬ hearB long slot ∨ (planF l).1 ≠ 0 ∨ 40 < n2
    · exact bus_err ea a a2 a3 n cap n2 cap2 n3 cap3 l ss long slot w hg' hn hr hn2 hr2 h1 h2 h3 hE
    · have hB : hearB long slot := Classical.byContradiction fun hx => hE (Or.inl hx)
      have hp : (planF l).1 = 0 := Decidable.byContradiction fun hx => hE (Or.inr (Or.inl hx))
      obtain ⟨sl, rfl⟩ : ∃ s : Nat, slot = s := ⟨slot.toNat, by have := hB.2.2.1; omega⟩
      exact bus_law ea a a2 a3 n cap n2 cap2 n3 cap3 l ss lost long sl w hg' hn hr hn2 hr2 hn3 hr3 h1 h2 h3 hB hp (by omega)
end Go.Proofs.YtbhjjbfhncfbdaaDoor
