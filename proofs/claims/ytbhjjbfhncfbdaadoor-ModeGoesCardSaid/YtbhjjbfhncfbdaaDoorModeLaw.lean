/- ModeGoes: the closed fact, the law's walk. -/
import Derived.Test.YtbhjjbfhncfbdaaDoorModeNew
import Derived.Test.YtbhjjbfhncfbdaaDoorCoded
namespace Go.Proofs.YtbhjjbfhncfbdaaDoor
open Go.RowKit Go.Maps

set_option maxRecDepth 100000 in
set_option maxHeartbeats 1600000 in
theorem moded_any (ea : Nat → Addr) (w : World) (hG : GlobC w ea) :
    Calls Tryd.prog 29 #[] w fun e w' => e = .returned (.bool true) ∧ Below w.heap.size w w' := by
  have hb0 : Below w.heap.size w (w.alloc (.cells (encPairs [(0, 2)]).toArray 87)) := (Below.refl _ _).alloc (Nat.le_refl _) _
  have C1 := Lib.hid (new_any ea (some ⟨w.heap.size, 0, none⟩) 1 1 [(0, 2)] _ ((hG.below hb0).sub (by simp)) rfl (RowAt.new_at w (encPairs [(0, 2)]) 87 _ rfl) (by omega))
  have HG := Lib.hid hG
  have HB0 := Lib.hid hb0
  clear hG hb0
  go_enter Tryd.func29, Tryd.ntmps29
  go_wp2_with fail
  refine C1.out.mono ?_
  rintro e w1 (⟨hl, b, rfl, hbb, hB, hb1⟩ | ⟨i, hi, hp, _⟩)
  · have hw1 : Below w.heap.size w w1 := HB0.out.trans (hb1.mono (by simp))
    have hbw : w.heap.size ≤ b := by simp at hbb; omega
    have HBW := Lib.hid hw1
    have HL := Lib.hid hl
    have HBB := Lib.hid hbw
    clear hb1 hw1 hbb hl hbw
    have HB := Lib.hid hB
    clear hB
    go_wp2_with fail
    refine (ask_any ea b [(0, 2)] 0 (-1) 1 _ ((HG.out.below HBW.out).sub (by simp)) HB.out HL.out rfl (Or.inl rfl)).mono ?_
    rintro e w2 ⟨rfl, hB2, hb2, hz2⟩
    rw [askTo_no (c := 2) (by decide)] at hB2
    rw [show askE [(0, 2)] 0 (-1) 1 = 3 by decide]
    have HB2 := Lib.hid hB2
    have HBW2 := Lib.hid (HBW.out.trans (hb2.mono HBB.out))
    clear hB2 hb2 hz2
    go_wp2_with fail
    refine (ask_any ea b [(0, 2)] 0 (-1) 2 _ ((HG.out.below HBW2.out).sub (by simp)) HB2.out HL.out rfl (Or.inl rfl)).mono ?_
    rintro e w3 ⟨rfl, hB3, hb3, hz3⟩
    rw [askTo_ok (by decide)] at hB3
    rw [show askE [(0, 2)] 0 (-1) 2 = 0 by decide]
    rw [errV_zero]
    have HB3 := Lib.hid hB3
    have HBW3 := Lib.hid (HBW2.out.trans (hb3.mono HBB.out))
    clear hB3 hb3 hz3
    go_wp2_with fail
    refine (coded2_any ea _ 3 (-1) 3 _ (HG.out.below HBW3.out) (ErrIs.bare ea _ 3) (by omega)).mono ?_
    rintro e w4 ⟨rfl, hb4⟩
    rw [decide_eq_true (⟨rfl, rfl⟩ : ((3 : Nat) : Int) = 3 ∧ (-1 : Int) = -1)]
    have HB4 := Lib.hid (HB3.out.below hb4)
    have HBW4 := Lib.hid (HBW3.out.trans (hb4.mono HBW3.out.size))
    clear hb4
    go_wp2_with fail
    refine (now_any b _ _ _ _ HB4.out).mono ?_
    rintro e w5 ⟨rfl, rfl⟩
    go_wp2_with fail
    refine (asked_any b _ _ _ _ HB4.out).mono ?_
    rintro e w5 ⟨rfl, rfl⟩
    go_wp2_with fail
    refine (turn_any b _ _ _ _ HB4.out (Or.inr (by omega))).mono ?_
    rintro e w6 ⟨rfl, _, hb6, _⟩
    rw [show turnNow 0 2 = 2 by decide]
    go_wp2
    go_ret
    exact ⟨rfl, HBW4.out.trans (hb6.mono HBB.out)⟩
  · exfalso
    have h0 : i = 0 := by simp at hi; omega
    subst h0
    simp [pairB, modeB] at hp

theorem modeGoes_guard (ea : Nat → Addr) (a a2 : Option Addr) (n cap n2 cap2 : Nat) (w : World) (hG : GlobC w ea) (hc : n ≤ 4611686018427387904) (hc2 : n2 ≤ 4611686018427387904) (h : 20 < n ∨ 60 < n2) :
    Calls Tryd.prog 7 #[.slice a n cap, .slice a2 n2 cap2] w fun e w' => e = .returned (.bool true) ∧ Below w.heap.size w w' := by
  have HG := Lib.hid hG
  clear hG
  by_cases h1 : 20 < n
  · clear h
    go_enter Tryd.func7, Tryd.ntmps7
    go_wp2_with (go_at_call 29; refine (moded_any ea _ HG.out).mono ?_; rintro e w1 ⟨rfl, hb⟩)
    go_ret
    exact ⟨rfl, hb⟩
  · have h2 : 60 < n2 := by omega
    clear h
    go_enter Tryd.func7, Tryd.ntmps7
    go_wp2_with (go_at_call 29; refine (moded_any ea _ HG.out).mono ?_; rintro e w1 ⟨rfl, hb⟩)
    go_ret
    exact ⟨rfl, hb⟩

/-- The pairs are no board. -/
theorem modeGoes_bad (ea : Nat → Addr) (a a2 : Option Addr) (n cap n2 cap2 : Nat) (l : List (Int × Int)) (w : World) (hG : GlobC w ea) (hn : l.length = n) (hr : RowAt w a (encPairs l)) (h : n ≤ 20) (h2 : n2 ≤ 60) (hb : 16 < n ∨ ¬ ∀ p ∈ l, pairB p = true) :
    Calls Tryd.prog 7 #[.slice a n cap, .slice a2 n2 cap2] w fun e w' => e = .returned (.bool true) ∧ Below w.heap.size w w' := by
  have HG := Lib.hid hG
  have HN := Lib.hid hn
  have C : Hid (∀ (W : World) (b2 : Option Addr) (c2 : Nat), Below w.heap.size w W → RowAt W b2 (encPairs l) → Calls Tryd.prog 30 #[.slice b2 n c2] W fun e w' => ∃ t x, e = .returned (.tuple #[.pointer none, .iface t x]) ∧ Below W.heap.size W w') := by
    intro W b2 c2 hw hrw
    by_cases h16 : 16 < n
    · exact (new_long ea b2 n c2 W ((hG.below hw).sub (by simp)) (by omega) h16).mono fun e w' ⟨h1, h2⟩ => ⟨129, .pointer (some (ea 7)), by rw [h1, errV_pos ea (by decide)], h2⟩
    · refine (new_any ea b2 n c2 l W ((hG.below hw).sub (by simp)) HN.out hrw (by omega)).mono ?_
      rintro e w' (⟨hl, _⟩ | ⟨i, hi, _, _, v, h1, h2, h3⟩)
      · exact absurd hl (hb.resolve_left h16)
      · obtain ⟨t, x, rfl⟩ := h2.held (by decide)
        exact ⟨t, x, h1, h3⟩
  clear hG hn hb
  go_enter Tryd.func7, Tryd.ntmps7
  go_wp2_with (first
    | (go_at_call 29; refine (moded_any ea _ HG.out).mono ?_; rintro e w1 ⟨rfl, hb⟩)
    | (go_at_call 31; refine (asPairs_any _ _ _ l _ HN.out (hr.below hb) (by omega)).mono ?_; rintro e w2 ⟨b2, c2, rfl, hr2, hc2, hb2⟩; have hb3 := hb.trans (hb2.mono hb.size))
    | (go_at_call 30; refine (C.out _ _ _ hb3 hr2).mono ?_; rintro e w4 ⟨t, x, rfl, hb4⟩; have hb5 := hb3.trans (hb4.mono hb3.size)))
  go_ret
  exact ⟨rfl, hb5⟩

/-- A board's state that a law keeps. -/
def Kept (l : List (Int × Int)) (now asked : Int) : Prop := modeB now = true ∧ (asked = -1 ∨ (0 ≤ asked ∧ modeB asked = true ∧ (now, asked) ∈ l))
theorem kept_ask {l : List (Int × Int)} {now asked to : Int} (h : Kept l now asked) : Kept l now (askTo l now asked to) := by
  unfold askTo
  split
  · rename_i h0
    unfold askE at h0
    split at h0
    · simp at h0
    · rename_i hm
      split at h0
      · simp at h0
      · split at h0
        · rename_i hin
          have hm' : modeB to = true := by simpa using hm
          exact ⟨h.1, Or.inr ⟨by simp only [modeB, decide_eq_true_eq] at hm'; exact hm'.1, hm', hin⟩⟩
        · simp at h0
  · exact h
theorem kept_turn {l : List (Int × Int)} {now asked : Int} (h : Kept l now asked) : Kept l (turnNow now asked) (-1) := by
  refine ⟨?_, Or.inl rfl⟩
  rcases h.2 with rfl | ⟨h1, h2, _⟩
  · rw [turnNow, if_neg (by omega)]; exact h.1
  · rw [turnNow, if_pos h1]; exact h2

def isPair (was n : Int) (p : Int × Int) : Bool := p.1 == was && p.2 == n
theorem any_snoc (was n : Int) (l : List (Int × Int)) (k : Nat) (hk : k < l.length) : (l.take (k + 1)).any (isPair was n) = ((l.take k).any (isPair was n) || isPair was n l[k]) := by
  rw [List.take_succ_eq_append_getElem hk, List.any_append]; simp

set_option maxRecDepth 100000 in
set_option maxHeartbeats 3200000 in
theorem modeGoes_law (ea : Nat → Addr) (a a2 : Option Addr) (n cap n2 cap2 : Nat) (l : List (Int × Int)) (asks : List Int) (w : World) (hG : GlobC w ea) (hn : l.length = n) (hr : RowAt w a (encPairs l)) (hn2 : asks.length = n2) (hr2 : RowAt w a2 (encInts asks)) (h : n ≤ 16) (h2 : n2 ≤ 60) (hl : ∀ p ∈ l, pairB p = true) :
    Calls Tryd.prog 7 #[.slice a n cap, .slice a2 n2 cap2] w fun e w' => e = .returned (.bool true) ∧ Below w.heap.size w w' := by
  have HG := Lib.hid hG
  have HN := Lib.hid hn
  have HN2 := Lib.hid hn2
  have HL := Lib.hid hl
  have C : Hid (∀ (W : World) (b2 : Option Addr) (c2 : Nat), Below w.heap.size w W → RowAt W b2 (encPairs l) → Calls Tryd.prog 30 #[.slice b2 n c2] W fun e w' => ∃ b, e = .returned (.tuple #[.pointer (some ⟨b, 0, none⟩), .nilIface]) ∧ w.heap.size ≤ b ∧ BoardAt w' b l 0 (-1) ∧ Below W.heap.size W w') := by
    intro W b2 c2 hw hrw
    refine (new_any ea b2 n c2 l W ((hG.below hw).sub (by simp)) HN.out hrw (by omega)).mono ?_
    rintro e w' (⟨_, b, h1, h2, h3, h4⟩ | ⟨i, hi, hp, _⟩)
    · exact ⟨b, h1, Nat.le_trans hw.size h2, h3, h4⟩
    · have := hl _ (List.getElem_mem hi); rw [hp] at this; simp at this
  clear hG hn hn2 hl
  go_enter Tryd.func7, Tryd.ntmps7
  go_wp2_with (first
    | (go_at_call 29; refine (moded_any ea _ HG.out).mono ?_; rintro e w1 ⟨rfl, hb⟩)
    | (go_at_call 31; refine (asPairs_any _ _ _ l _ HN.out (hr.below hb) (by omega)).mono ?_; rintro e w2 ⟨b2, c2, rfl, hrp, hc2, hb2⟩; have hb3 := hb.trans (hb2.mono hb.size))
    | (go_at_call 30; refine (C.out _ _ _ hb3 hrp).mono ?_; rintro e w4 ⟨bb, rfl, hbb, hB, hb4⟩; have hb5 := hb3.trans (hb4.mono hb3.size)))
  clear hrp hb4 hb3 hb2 hb
  have HBB := Lib.hid hbb
  have hB0 := Lib.hid hB
  clear hbb hB C
  go_loopw [8] (fun i wr => ∃ (k : Nat) (now asked : Int), k ≤ n2 ∧ i = .int .i64 k ∧ Hid (Kept l now asked) ∧ Hid (BoardAt wr bb l now asked) ∧ Below w.heap.size w wr) (fun i _ => n2 - (intOf i).toNat)
  case atStart => exact ⟨0, 0, -1, Nat.zero_le _, rfl, ⟨rfl, Or.inl rfl⟩, hB0, hb5⟩
  case round =>
    clear hB0 hb5
    obtain ⟨k, now, asked, hk, rfl, HK, HB, hb⟩ := hrel
    by_cases hlt : k < n2
    · have hkt : k < asks.length := by have := HN2.out; omega
      obtain ⟨b, off, rfl, hbl, c0⟩ := hr2.int k hkt
      have d0 := (hb.cell (p := ⟨b, off + k, none⟩) hbl).trans c0
      have hi0 : (0 : Int) ≤ (k : Int) := by omega
      have hi1 : (k : Int) < (n2 : Int) := by omega
      generalize asks[k] = x at *
      clear hkt c0
      by_cases hx : x = -2
      · subst hx
        have hkk : asked = -1 ∨ 0 ≤ asked := by
          rcases HK.out.2 with h1 | ⟨h1, _⟩
          · exact Or.inl h1
          · exact Or.inr h1
        have HX : Hid ((turnNow now asked == now || l.any (isPair now (turnNow now asked))) = true) := by
          unfold Hid
          rcases HK.out.2 with rfl | ⟨h1, _, h3⟩
          · simp [turnNow]
          · rw [turnNow, if_pos h1, Bool.or_eq_true]; exact Or.inr (List.any_eq_true.2 ⟨_, h3, by simp [isPair]⟩)
        have HKT := Lib.hid (kept_turn HK.out)
        go_wp2_with fail
        refine (now_any bb l now asked _ HB.out).mono ?_
        rintro e w6 ⟨rfl, rfl⟩
        go_wp2_with fail
        refine (asked_any bb l now asked _ HB.out).mono ?_
        rintro e w6 ⟨rfl, rfl⟩
        go_wp2_with fail
        refine (turn_any bb l now asked _ HB.out hkk).mono ?_
        rintro e w7 ⟨rfl, hB7, hb7, hz7⟩
        have HB7 := Lib.hid hB7
        have hb8 := hb.trans (hb7.mono HBB.out)
        clear hB7 hb7 hz7
        go_wp2_with fail
        refine (now_any bb l _ _ _ HB7.out).mono ?_
        rintro e w9 ⟨rfl, rfl⟩
        go_wp2_with fail
        refine (asked_any bb l _ _ _ HB7.out).mono ?_
        rintro e w9 ⟨rfl, rfl⟩
        have hT : Hid ((asked = -1 ∧ turnNow now asked = now) ∨ (0 ≤ asked ∧ turnNow now asked = asked)) := by
          unfold Hid
          rcases hkk with rfl | h1
          · exact Or.inl ⟨rfl, by simp [turnNow]⟩
          · exact Or.inr ⟨h1, by rw [turnNow, if_pos h1]⟩
        clear hkk
        generalize turnNow now asked = nn at *
        clear d0
        obtain ⟨wo, rfl⟩ : ∃ wo : World, wo = w7 := ⟨_, rfl⟩
        rcases hT.out with ⟨rfl, rfl⟩ | ⟨h1, rfl⟩
        · clear hT
          go_wp2
          go_loopw [13, 14] (fun al j wx => ∃ m : Nat, m ≤ n ∧ j = .int .i64 m ∧ al = .bool (nn == nn || (l.take m).any (isPair nn nn)) ∧ wx = wo) (fun _ j _ => n - (intOf j).toNat)
          case atStart => exact ⟨0, Nat.zero_le _, rfl, by simp, rfl⟩
          case round =>
            obtain ⟨m, hm, rfl, rfl, rfl⟩ := hrel
            by_cases hmn : m < n
            · have hmt : m < l.length := by have := HN.out; omega
              obtain ⟨b, off, rfl, hbl, q0, q1⟩ := hr.pair m hmt
              have e0 := (hb8.cell (p := ⟨b, off + m * 2, none⟩) hbl).trans q0
              have e1 := (hb8.cell (p := ⟨b, off + m * 2 + 1, none⟩) hbl).trans q1
              have hm0 : (0 : Int) ≤ (m : Int) := by omega
              have hm1 : (m : Int) < (n : Int) := by omega
              have HY := Lib.hid (any_snoc nn nn l m hmt)
              generalize l[m] = p at *
              clear hmt q0 q1
              cases hA : (nn == nn || (l.take m).any (isPair nn nn))
              · have HA := Lib.hid hA
                clear hA
                cases r1 : (p.1 == nn)
                · have HZ : Hid ((nn == nn || (l.take (m + 1)).any (isPair nn nn)) = false) := by
                    unfold Hid; have h3 := HA.out; rw [Bool.or_eq_false_iff] at h3; rw [HY.out, h3.1, h3.2, isPair, r1]; rfl
                  go_wp2
                  go_roundw
                  case rel => exact ⟨m + 1, by omega, by go_num, by rw [HZ.out], trivial⟩
                  case measure => simp [intOf]; omega
                · cases r2 : (p.2 == nn)
                  · have HZ : Hid ((nn == nn || (l.take (m + 1)).any (isPair nn nn)) = false) := by
                      unfold Hid; have h3 := HA.out; rw [Bool.or_eq_false_iff] at h3; rw [HY.out, h3.1, h3.2, isPair, r1, r2]; rfl
                    go_wp2
                    go_roundw
                    case rel => exact ⟨m + 1, by omega, by go_num, by rw [HZ.out], trivial⟩
                    case measure => simp [intOf]; omega
                  · have HZ : Hid ((nn == nn || (l.take (m + 1)).any (isPair nn nn)) = true) := by
                      unfold Hid; have h3 := HA.out; rw [Bool.or_eq_false_iff] at h3; rw [HY.out, h3.1, h3.2, isPair, r1, r2]; rfl
                    go_wp2
                    go_roundw
                    case rel => exact ⟨m + 1, by omega, by go_num, by rw [HZ.out], trivial⟩
                    case measure => simp [intOf]; omega
              · have HZ : Hid ((nn == nn || (l.take (m + 1)).any (isPair nn nn)) = true) := by
                  unfold Hid; rw [HY.out, ← Bool.or_assoc, hA]; rfl
                clear hA
                go_wp2
                go_roundw
                case rel => exact ⟨m + 1, by omega, by go_num, by rw [HZ.out], trivial⟩
                case measure => simp [intOf]; omega
            · have ht : l.take m = l := List.take_of_length_le (by have := HN.out; omega)
              rw [ht, HX.out]
              clear ht
              go_wp2
              go_roundw
              case rel => exact ⟨k + 1, nn, -1, by omega, by go_num, HKT, HB7, hb8⟩
              case measure => simp [intOf]; omega
        · clear hT
          have ha1 : (nn == -1) = false := by simp; omega
          have ha2 : (nn != -1) = true := by simp; omega
          go_wp2
          go_loopw [13, 14] (fun al j wx => ∃ m : Nat, m ≤ n ∧ j = .int .i64 m ∧ al = .bool (nn == now || (l.take m).any (isPair now nn)) ∧ wx = wo) (fun _ j _ => n - (intOf j).toNat)
          case atStart => exact ⟨0, Nat.zero_le _, rfl, by simp, rfl⟩
          case round =>
            obtain ⟨m, hm, rfl, rfl, rfl⟩ := hrel
            by_cases hmn : m < n
            · have hmt : m < l.length := by have := HN.out; omega
              obtain ⟨b, off, rfl, hbl, q0, q1⟩ := hr.pair m hmt
              have e0 := (hb8.cell (p := ⟨b, off + m * 2, none⟩) hbl).trans q0
              have e1 := (hb8.cell (p := ⟨b, off + m * 2 + 1, none⟩) hbl).trans q1
              have hm0 : (0 : Int) ≤ (m : Int) := by omega
              have hm1 : (m : Int) < (n : Int) := by omega
              have HY := Lib.hid (any_snoc now nn l m hmt)
              generalize l[m] = p at *
              clear hmt q0 q1
              cases hA : (nn == now || (l.take m).any (isPair now nn))
              · have HA := Lib.hid hA
                clear hA
                cases r1 : (p.1 == now)
                · have HZ : Hid ((nn == now || (l.take (m + 1)).any (isPair now nn)) = false) := by
                    unfold Hid; have h3 := HA.out; rw [Bool.or_eq_false_iff] at h3; rw [HY.out, h3.1, h3.2, isPair, r1]; rfl
                  go_wp2
                  go_roundw
                  case rel => exact ⟨m + 1, by omega, by go_num, by rw [HZ.out], trivial⟩
                  case measure => simp [intOf]; omega
                · cases r2 : (p.2 == nn)
                  · have HZ : Hid ((nn == now || (l.take (m + 1)).any (isPair now nn)) = false) := by
                      unfold Hid; have h3 := HA.out; rw [Bool.or_eq_false_iff] at h3; rw [HY.out, h3.1, h3.2, isPair, r1, r2]; rfl
                    go_wp2
                    go_roundw
                    case rel => exact ⟨m + 1, by omega, by go_num, by rw [HZ.out], trivial⟩
                    case measure => simp [intOf]; omega
                  · have HZ : Hid ((nn == now || (l.take (m + 1)).any (isPair now nn)) = true) := by
                      unfold Hid; have h3 := HA.out; rw [Bool.or_eq_false_iff] at h3; rw [HY.out, h3.1, h3.2, isPair, r1, r2]; rfl
                    go_wp2
                    go_roundw
                    case rel => exact ⟨m + 1, by omega, by go_num, by rw [HZ.out], trivial⟩
                    case measure => simp [intOf]; omega
              · have HZ : Hid ((nn == now || (l.take (m + 1)).any (isPair now nn)) = true) := by
                  unfold Hid; rw [HY.out, ← Bool.or_assoc, hA]; rfl
                clear hA
                go_wp2
                go_roundw
                case rel => exact ⟨m + 1, by omega, by go_num, by rw [HZ.out], trivial⟩
                case measure => simp [intOf]; omega
            · have ht : l.take m = l := List.take_of_length_le (by have := HN.out; omega)
              rw [ht, HX.out]
              clear ht
              go_wp2
              go_roundw
              case rel => exact ⟨k + 1, nn, -1, by omega, by go_num, HKT, HB7, hb8⟩
              case measure => simp [intOf]; omega
      · have hx1 : (x == -2) = false := by simpa using hx
        have hx2 : (x != -2) = true := by simpa using hx
        have hkk : asked = -1 ∨ 0 ≤ asked := by
          rcases HK.out.2 with h1 | ⟨h1, _⟩
          · exact Or.inl h1
          · exact Or.inr h1
        have HKA := Lib.hid (kept_ask (to := x) HK.out)
        have CA := Lib.hid (ask_any ea bb l now asked x wr ((HG.out.below hb).sub (by simp)) HB.out HL.out HK.out.1 hkk)
        clear hx
        by_cases h0 : askE l now asked x = 0
        · have ha : asked = -1 := by
            rcases hkk with h1 | h1
            · exact h1
            · exfalso
              rw [askE] at h0
              by_cases hm : modeB x = false
              · rw [if_pos hm] at h0; simp at h0
              · rw [if_neg hm, if_pos h1] at h0; simp at h0
          subst ha
          rw [askTo_ok h0] at HKA CA
          rw [h0, errV_zero] at CA
          clear h0 hkk
          go_wp2_with fail
          refine (now_any bb l now (-1) _ HB.out).mono ?_
          rintro e w6 ⟨rfl, rfl⟩
          go_wp2_with fail
          refine (asked_any bb l now (-1) _ HB.out).mono ?_
          rintro e w6 ⟨rfl, rfl⟩
          go_wp2_with fail
          refine CA.out.mono ?_
          rintro e w7 ⟨rfl, hB7, hb7, hz7⟩
          have HB7 := Lib.hid hB7
          have hb8 := hb.trans (hb7.mono HBB.out)
          have e0 : w7.cell? ⟨b, off + k, none⟩ = some (.int .i64 x) := (hb8.cell (p := ⟨b, off + k, none⟩) hbl).trans (((hb.cell (p := ⟨b, off + k, none⟩) hbl).symm).trans d0)
          clear hB7 hb7 hz7 d0
          go_wp2_with fail
          go_quiet ((first | (go_at_call 32; exact Calls.quiet_of_same ((now_any bb l now x _ (HB7.out.drewN _)).mono fun _ _ ⟨h1, h2⟩ => ⟨h1, h2.symm⟩)) | (go_at_call 33; exact Calls.quiet_of_same ((asked_any bb l now x _ (HB7.out.drewN _)).mono fun _ _ ⟨h1, h2⟩ => ⟨h1, h2.symm⟩))))
          go_wp2
          go_roundw
          case rel => exact ⟨k + 1, now, x, by omega, by go_num, HKA, HB7.out.drewN _, below_drewN hb8 _⟩
          case measure => simp [intOf]; omega
        · rw [show askTo l now asked x = asked from if_neg h0] at HKA CA
          have HE := Lib.hid (errV_pos ea h0)
          rw [HE.out] at CA
          clear h0 hkk
          go_wp2_with fail
          refine (now_any bb l now asked _ HB.out).mono ?_
          rintro e w6 ⟨rfl, rfl⟩
          go_wp2_with fail
          refine (asked_any bb l now asked _ HB.out).mono ?_
          rintro e w6 ⟨rfl, rfl⟩
          go_wp2_with fail
          refine CA.out.mono ?_
          rintro e w7 ⟨rfl, hB7, hb7, hz7⟩
          have HB7 := Lib.hid hB7
          have hb8 := hb.trans (hb7.mono HBB.out)
          clear hB7 hb7 hz7 d0
          go_wp2_with fail
          go_quiet ((first | (go_at_call 32; exact Calls.quiet_of_same ((now_any bb l now asked _ (HB7.out.drewN _)).mono fun _ _ ⟨h1, h2⟩ => ⟨h1, h2.symm⟩)) | (go_at_call 33; exact Calls.quiet_of_same ((asked_any bb l now asked _ (HB7.out.drewN _)).mono fun _ _ ⟨h1, h2⟩ => ⟨h1, h2.symm⟩))))
          go_wp2
          go_roundw
          case rel => exact ⟨k + 1, now, asked, by omega, by go_num, HKA, HB7.out.drewN _, below_drewN hb8 _⟩
          case measure => simp [intOf]; omega
    · go_wp2
      go_ret
      exact ⟨rfl, hb⟩

/-- The law's walk, whole. -/
theorem walk_ModeGoes (ea : Nat → Addr) (a : Option Addr) (n cap : Nat) (l : List (Int × Int)) (a2 : Option Addr) (n2 cap2 : Nat) (asks : List Int) (w : World) (hG : GlobC w ea)
    (hn : l.length = n) (hr : RowAt w a (encPairs l)) (_hc : n ≤ cap) (hb : n ≤ 4611686018427387904) (hn2 : asks.length = n2) (hr2 : RowAt w a2 (encInts asks)) (_hc2 : n2 ≤ cap2) (hb2 : n2 ≤ 4611686018427387904) :
    Calls Tryd.prog 7 #[.slice a n cap, .slice a2 n2 cap2] w fun e w' => e = .returned (.bool true) ∧ Below w.heap.size w w' := by
  by_cases h : 20 < n ∨ 60 < n2
  · exact modeGoes_guard ea a a2 n cap n2 cap2 w hG hb hb2 h
  · by_cases hx : 16 < n ∨ ¬ ∀ p ∈ l, pairB p = true
    · exact modeGoes_bad ea a a2 n cap n2 cap2 l w hG hn hr (by omega) (by omega) hx
    · have hl : ∀ p ∈ l, pairB p = true := Classical.byContradiction fun hy => hx (Or.inr hy)
      exact modeGoes_law ea a a2 n cap n2 cap2 l asks w hG hn hr hn2 hr2 (by omega) (by omega) hl
end Go.Proofs.YtbhjjbfhncfbdaaDoor
