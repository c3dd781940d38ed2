/- the reference's HearOf. -/
import Derived.Test.YtmikeblbfmfimaaDoorHearAny
import Derived.Test.YtmikeblbfmfimaaDoorRowSet
namespace Go.Proofs.YtmikeblbfmfimaaDoor
open Go.RowKit

set_option maxRecDepth 100000 in
set_option maxHeartbeats 800000 in
theorem hearOf_bound (a a2 a3 : Option Addr) (n cap n2 cap2 n3 cap3 : Nat) (long slot : Int) (w : World) (hB : ¬ hearB long slot) :
    Calls Tryd.prog 51 #[.slice a n cap, .int .i64 long, .int .i64 slot, .slice a2 n2 cap2, .slice a3 n3 cap3] w fun e w' => e = .returned (.tuple #[.slice none 0 0, .agg #[.int .i64 2, .int .i64 (-1)]]) ∧ Below w.heap.size w w' := by
  by_cases h1 : long < 1 ∨ 1000000 < long ∨ slot < 0 ∨ 1000000 < slot
  · clear hB
    go_enter Tryd.func51, Tryd.ntmps51
    go_wp2_with (go_at_call 68; refine (bare_any _ _).mono ?_; rintro e w1 ⟨rfl, hb⟩; obtain ⟨c0, c1, f0, f1, z1, hw1⟩ := own2 hb)
    all_goals first
      | omega
      | (refine bodyPost_ret (v := .tuple #[.slice none 0 0, .agg #[.int .i64 2, .int .i64 (-1)]]) (by simp [results, Tryd.results51, go_sem, c0, c1]) rfl ?_
         exact ⟨rfl, (hw1.setCell (by simp) _).setCell (by simp) _⟩)
  · have hb1 : 1 ≤ long := by omega
    have hb2 : long ≤ 1000000 := by omega
    have hb3 : 0 ≤ slot := by omega
    have hb4 : slot ≤ 1000000 := by omega
    have hp := prod_le hb3 (by omega) hb1 hb2
    have hgt : 1000000 < slot * long := by
      unfold hearB at hB; omega
    obtain ⟨hp0, hp1⟩ := hp
    clear hB h1
    go_enter Tryd.func51, Tryd.ntmps51
    go_wp2_with (go_at_call 68; refine (bare_any _ _).mono ?_; rintro e w1 ⟨rfl, hb⟩; obtain ⟨c0, c1, f0, f1, z1, hw1⟩ := own2 hb)
    refine bodyPost_ret (v := .tuple #[.slice none 0 0, .agg #[.int .i64 2, .int .i64 (-1)]]) (by simp [results, Tryd.results51, go_sem, c0, c1]) rfl ?_
    exact ⟨rfl, (hw1.setCell (by simp) _).setCell (by simp) _⟩

set_option maxRecDepth 100000 in
set_option maxHeartbeats 800000 in
theorem hearOf_plan (a a2 a3 : Option Addr) (n cap n2 cap2 n3 cap3 : Nat) (l : List Int) (long slot : Int) (w : World) (hn : l.length = n) (hr : RowAt w a (encInts l)) (hc : n ≤ 4611686018427387904) (hB : hearB long slot) (hp : (planF l).1 ≠ 0) :
    Calls Tryd.prog 51 #[.slice a n cap, .int .i64 long, .int .i64 slot, .slice a2 n2 cap2, .slice a3 n3 cap3] w fun e w' => e = .returned (.tuple #[.slice none 0 0, .agg #[.int .i64 (planF l).1, .int .i64 (planF l).2]]) ∧ Below w.heap.size w w' := by
  have hb0 : Below w.heap.size w (w.alloc (.cells #[.int .i64 0, .int .i64 0] 39)) := (Below.refl _ _).alloc (Nat.le_refl _) _
  have C := Lib.hid (planFault_any a n cap l _ hn (hr.below hb0) hc)
  obtain ⟨h1, h2, h3, h4⟩ := hB
  have hs6 : slot ≤ 1000000 := by
    have : slot * 1 ≤ slot * long := Int.mul_le_mul_of_nonneg_left h1 h3
    omega
  have hm0 : 0 ≤ slot * long := Int.mul_nonneg h3 (by omega)
  have hz : (((planF l).1 : Int) == 0) = false := by simp; omega
  have hp0 : (0 : Int) < ((planF l).1 : Int) := by omega
  generalize ((planF l).1 : Int) = c at *
  generalize (planF l).2 = pl at *
  clear hb0 hp hn
  go_enter Tryd.func51, Tryd.ntmps51
  go_wp2_with fail
  refine C.out.mono ?_
  rintro e w1 ⟨rfl, hb⟩
  obtain ⟨c0, c1, f0, f1, z1, hw1⟩ := own2 hb
  obtain ⟨R0, R1⟩ := res2 z1 c0 c1
  go_wp2
  go_region
  go_wp2
  refine bodyPost_ret (v := .tuple #[.slice none 0 0, .agg #[.int .i64 c, .int .i64 pl]]) (by simp [results, Tryd.results51, go_sem, R0, R1]) rfl ?_
  exact ⟨rfl, below_drewN (((hw1.setCell (by simp) _).setCell (by simp) _).alloc (by simpa using hw1.size) _) 1⟩

set_option maxRecDepth 100000 in
set_option maxHeartbeats 1600000 in
theorem hearOf_full (a a2 a3 : Option Addr) (n cap n2 cap2 n3 cap3 : Nat) (l : List Int) (long slot : Int) (w : World) (hn : l.length = n) (hr : RowAt w a (encInts l)) (hc : n ≤ 4611686018427387904) (hB : hearB long slot) (hp : (planF l).1 = 0) (hl : 40 < n2) :
    Calls Tryd.prog 51 #[.slice a n cap, .int .i64 long, .int .i64 slot, .slice a2 n2 cap2, .slice a3 n3 cap3] w fun e w' => e = .returned (.tuple #[.slice none 0 0, .agg #[.int .i64 7, .int .i64 (-1)]]) ∧ Below w.heap.size w w' := by
  have hb0 : Below w.heap.size w (w.alloc (.cells #[.int .i64 0, .int .i64 0] 39)) := (Below.refl _ _).alloc (Nat.le_refl _) _
  have C := Lib.hid (planFault_any a n cap l _ hn (hr.below hb0) hc)
  rw [(planF_ok hp).1] at C
  simp only [Int.cast_ofNat_Int] at C
  obtain ⟨h1, h2, h3, h4⟩ := hB
  have hs6 : slot ≤ 1000000 := by
    have : slot * 1 ≤ slot * long := Int.mul_le_mul_of_nonneg_left h1 h3
    omega
  have hm0 : 0 ≤ slot * long := Int.mul_nonneg h3 (by omega)
  clear hb0 hp hn
  go_enter Tryd.func51, Tryd.ntmps51
  go_wp2_with fail
  refine C.out.mono ?_
  rintro e w1 ⟨rfl, hb⟩
  obtain ⟨c0, c1, f0, f1, z1, hw1⟩ := own2 hb
  go_wp2_with fail
  refine (bare_any _ _).mono ?_
  rintro e w2 ⟨rfl, hb2⟩
  obtain ⟨d0, d1, g0, g1, z2⟩ := keep2 (past hb2) z1 c0 c1 f0 f1
  obtain ⟨q0, q1, r0, r1, z3, hw2⟩ := own2 hb2
  have hne : ¬ w.heap.size = w1.heap.size := by omega
  have hne2 : ¬ w1.heap.size = w.heap.size := by omega
  have hv2 := onto hw1 hw2
  go_wp2
  go_region
  go_wp2
  refine bodyPost_ret (v := .tuple #[.slice none 0 0, .agg #[.int .i64 7, .int .i64 (-1)]]) (by simp [results, Tryd.results51, go_sem, d0, d1]) rfl ?_
  refine ⟨rfl, below_drewN (w := ((((w2.setCell ⟨w1.heap.size, 0, none⟩ (.int .i64 7)).setCell ⟨w1.heap.size, 1, none⟩ (.int .i64 (-1))).setCell ⟨w.heap.size, 0, none⟩ (.int .i64 7)).setCell ⟨w.heap.size, 1, none⟩ (.int .i64 (-1)))) ?_ 1⟩
  exact ((((hv2.setCell (by simp; omega) _).setCell (by simp; omega) _).setCell (by simp) _).setCell (by simp) _)

/-- The text that was heard last. -/
def lastT (hs : List ByteArray) : ByteArray := hs.getLast?.getD ByteArray.empty
theorem lastT_snoc (hs : List ByteArray) (t : ByteArray) : lastT (hs ++ [t]) = t := by simp [lastT]
theorem outAt_one {hs : List ByteArray} (lost : List Int) (i : Nat) (h : hs.length = 1) : outAt hs lost i = if ((i : Int) + 1) ∈ lost then ByteArray.empty else lastT hs := by
  match hs, h with
  | [t], _ => rfl
theorem outAt_other {hs : List ByteArray} (lost : List Int) (i : Nat) (h : hs.length ≠ 1) : outAt hs lost i = ByteArray.empty := by
  match hs, h with
  | [], _ => rfl
  | [t], h => simp at h
  | _ :: _ :: _, _ => rfl
theorem outL_snoc (hs : List ByteArray) (lost : List Int) (j : Nat) (hj : j < 16) : (outL hs lost).take (j + 1) = (outL hs lost).take j ++ [outAt hs lost j] := by
  rw [List.take_succ_eq_append_getElem (by rw [outL_length]; exact hj), outL_get]
theorem isHeard_eq {l : List Int} {long slot : Int} {s : Snt} : isHeard l long slot s = (decide ((passF l long s.node s.tick).1 = 0) && decide (s.tick / long = slot)) := by
  rw [isHeard, Bool.eq_iff_iff]
  simp only [decide_eq_true_eq, Bool.and_eq_true]
  constructor
  · rintro ⟨_, h2, h3⟩; exact ⟨h3, h2⟩
  · rintro ⟨h1, h2⟩
    refine ⟨?_, h2, h1⟩
    by_cases hs : slotE long s.tick = 0
    · exact hs
    · rw [passF, if_pos hs] at h1; simp at h1

set_option maxRecDepth 100000 in
set_option maxHeartbeats 3200000 in
theorem hearOf_ok (a a2 a3 : Option Addr) (n cap n2 cap2 n3 cap3 : Nat) (l : List Int) (ss : List Snt) (lost : List Int) (long slot : Int) (w : World) (hn : l.length = n) (hr : RowAt w a (encInts l)) (hn2 : ss.length = n2) (hr2 : RowAt w a2 (encSents ss)) (hn3 : lost.length = n3) (hr3 : RowAt w a3 (encInts lost)) (hc3 : n3 ≤ 4611686018427387904)
    (hB : hearB long slot) (hp : (planF l).1 = 0) (hl : n2 ≤ 40) :
    Calls Tryd.prog 51 #[.slice a n cap, .int .i64 long, .int .i64 slot, .slice a2 n2 cap2, .slice a3 n3 cap3] w fun e w' => ∃ a' m cap', e = .returned (.tuple #[.slice a' m cap', .agg #[.int .i64 0, .int .i64 (-1)]]) ∧ RowAt w' a' (encStrs (outL (heardL l long slot ss) lost)) ∧ (outL (heardL l long slot ss) lost).length = m ∧ Below w.heap.size w w' := by
  have hb0 : Below w.heap.size w (w.alloc (.cells #[.int .i64 0, .int .i64 0] 39)) := (Below.refl _ _).alloc (Nat.le_refl _) _
  have hc : n ≤ 4611686018427387904 := by have := planF_ok hp; omega
  have C := Lib.hid (planFault_any a n cap l _ hn (hr.below hb0) hc)
  rw [(planF_ok hp).1] at C
  simp only [Int.cast_ofNat_Int] at C
  obtain ⟨h1, h2, h3, h4⟩ := hB
  have hs6 : slot ≤ 1000000 := by
    have : slot * 1 ≤ slot * long := Int.mul_le_mul_of_nonneg_left h1 h3
    omega
  have hm0 : 0 ≤ slot * long := Int.mul_nonneg h3 (by omega)
  have hlz : (long == 0) = false := by simp; omega
  obtain ⟨i0, hi, hz0, hz1, hz2⟩ := info_parts info_string
  have hi' := Lib.hid hi
  have hz0' := Lib.hid hz0
  have hz1' := Lib.hid hz1
  have hz2' := Lib.hid hz2
  have KP := Lib.hid (fun (W : World) (nd tk : Int) (hb : Below w.heap.size w W) => passFault_any a n cap l long nd tk W hn (hr.below hb) hc)
  have HN2 := Lib.hid hn2
  have HN3 := Lib.hid hn3
  clear hb0 hp hn hi hz0 hz1 hz2 hn2 hn3
  have hd1 : decide ((40 : Int) < (n2 : Int)) = false := by simp; omega
  have hfld : ∀ (W : World) (x y : Int), (Instr.field 39 (.agg #[.int .i64 x, .int .i64 y]) 0).run Tryd.prog W = .ok (.int .i64 x) W := fun W x y => by kernel_rfl
  have hd2 : decide (long < 1) = false := by simp; omega
  have hd3 : decide (1000000 < long) = false := by simp; omega
  have hd4 : decide (slot < 0) = false := by simp; omega
  have hd5 : decide (1000000 < slot) = false := by simp; omega
  have hd6 : decide (1000000 < slot * long) = false := by simp; omega
  go_enter Tryd.func51, Tryd.ntmps51
  go_wp2_with fail
  refine C.out.mono ?_
  rintro e w1 ⟨rfl, hb⟩
  obtain ⟨c0, c1, f0, f1, z1, hw1⟩ := own2 hb
  have hs1 := hw1.size
  go_wp2
  have hW : Below w.heap.size w (w1.alloc (.cells #[.int .i64 0, .int .i64 (-1)] 39)) := hw1.alloc hw1.size _
  have hW1 : Below w1.heap.size w1 (w1.alloc (.cells #[.int .i64 0, .int .i64 (-1)] 39)) := (Below.refl _ _).alloc (Nat.le_refl _) _
  have e0 : (w1.alloc (.cells #[.int .i64 0, .int .i64 (-1)] 39)).cell? ⟨w1.heap.size, 0, none⟩ = some (.int .i64 0) := by simp
  have e1 : (w1.alloc (.cells #[.int .i64 0, .int .i64 (-1)] 39)).cell? ⟨w1.heap.size, 1, none⟩ = some (.int .i64 (-1)) := by simp
  obtain ⟨d0, d1, g0, g1, _⟩ := keep2 hW1 z1 c0 c1 f0 f1
  have hsz : (w1.alloc (.cells #[.int .i64 0, .int .i64 (-1)] 39)).heap.size = w1.heap.size + 1 := by simp
  generalize hW0 : w1.alloc (.cells #[.int .i64 0, .int .i64 (-1)] 39) = W0 at *
  have hlt1 : w1.heap.size < W0.heap.size := by omega
  have hlt0 : w.heap.size < W0.heap.size := by omega
  generalize hQ : w1.heap.size = Q at *
  clear hW0 hsz hb c0 c1 f0 f1 hw1 hQ hW1 hs1 z1
  go_loopw [13, 14, 15] (fun c t i wr => ∃ k : Nat, k ≤ n2 ∧ i = .int .i64 k ∧ c = .int .i64 ((heardL l long slot (ss.take k)).length : Nat) ∧ t = .string (lastT (heardL l long slot (ss.take k))) ∧ Below W0.heap.size W0 wr) (fun _ _ i _ => n2 - (intOf i).toNat)
  case atStart => exact ⟨0, Nat.zero_le _, rfl, rfl, rfl, Below.refl _ _⟩
  case round =>
    obtain ⟨k, hk, rfl, rfl, rfl, hbr⟩ := hrel
    have hszr := hbr.size
    have hle : (heardL l long slot (ss.take k)).length ≤ 40 := by have h1 := heardL_le l long slot (ss.take k); have h2 := List.length_take_le k ss; omega
    by_cases hlt : k < n2
    · have hkt : k < ss.length := by have := HN2.out; omega
      have hwr := onto hW hbr
      obtain ⟨b, off, rfl, hbl, q0, q1, q2⟩ := (hr2.below hwr).snt k hkt
      have hS := heardL_snoc l long slot ss k hkt
      have hi0 : (0 : Int) ≤ (k : Int) := by omega
      have hi1 : (k : Int) < (n2 : Int) := by omega
      generalize ss[k] = s at *
      rw [isHeard_eq] at hS
      have KP' := Lib.hid (fun (W : World) (hb : Below w.heap.size w W) => KP.out W s.node s.tick hb)
      have hx : Below w.heap.size w wr.drew := below_drewN hwr 1
      generalize heardL l long slot (ss.take k) = hs at *
      by_cases hpf : (passF l long s.node s.tick).1 = 0
      · have hE : slotE long s.tick = 0 := by
          by_cases hq : slotE long s.tick = 0
          · exact hq
          · rw [passF, if_pos hq] at hpf; simp at hpf
        obtain ⟨_, _, ht0, ht1⟩ := slotE_ok hE
        have hdv0 : 0 ≤ s.tick / long := Int.ediv_nonneg ht0 (by omega)
        have hdv1 : s.tick / long ≤ s.tick := Int.ediv_le_self _ ht0
        rw [hpf] at KP'
        simp only [Int.cast_ofNat_Int] at KP'
        by_cases heq : s.tick / long = slot
        · have HS : Hid (heardL l long slot (ss.take (k + 1)) = hs ++ [s.text]) := by unfold Hid; rw [hS, if_pos (by simp [hpf, heq])]
          have hbq : (s.tick / long == slot) = true := by simpa using heq
          clear hS hkt hpf hE heq
          generalize s.text = tx at *
          go_wp2
          go_region_held3 (fun w' => w'.cell? ⟨b, off + k * 3, none⟩ = some (.int .i64 s.node) ∧ w'.cell? ⟨b, off + k * 3 + 1, none⟩ = some (.int .i64 s.tick)) (go_keep)
            ((go_at_call 37; (with_reducible refine (KP'.out _ hx).mono ?_); rintro e w5 ⟨rfl, hb5⟩; have k0 := (hb5.cell (p := ⟨b, off + k * 3, none⟩) hbl).trans q0; have k1 := (hb5.cell (p := ⟨b, off + k * 3 + 1, none⟩) hbl).trans q1; have k2 := (hb5.cell (p := ⟨b, off + k * 3 + 2, none⟩) hbl).trans q2; have hbr5 : Below W0.heap.size W0 w5 := onto (below_drewN hbr 1) hb5))
          go_wp2
          go_roundw
          case rel => exact ⟨k + 1, by omega, by go_num, by rw [HS.out, List.length_append]; first | rfl | go_num, by rw [HS.out, lastT_snoc], hbr5⟩
          case measure => simp [intOf]; omega
        · have HS : Hid (heardL l long slot (ss.take (k + 1)) = hs) := by unfold Hid; rw [hS, if_neg (by simp [heq]), List.append_nil]
          have hbq : (s.tick / long == slot) = false := by simpa using heq
          clear hS hkt hpf hE heq
          generalize s.text = tx at *
          go_wp2
          go_region_held3 (fun w' => w'.cell? ⟨b, off + k * 3, none⟩ = some (.int .i64 s.node) ∧ w'.cell? ⟨b, off + k * 3 + 1, none⟩ = some (.int .i64 s.tick)) (go_keep)
            ((go_at_call 37; (with_reducible refine (KP'.out _ hx).mono ?_); rintro e w5 ⟨rfl, hb5⟩; have k0 := (hb5.cell (p := ⟨b, off + k * 3, none⟩) hbl).trans q0; have k1 := (hb5.cell (p := ⟨b, off + k * 3 + 1, none⟩) hbl).trans q1; have k2 := (hb5.cell (p := ⟨b, off + k * 3 + 2, none⟩) hbl).trans q2; have hbr5 : Below W0.heap.size W0 w5 := onto (below_drewN hbr 1) hb5))
          go_wp2
          go_roundw
          case rel => exact ⟨k + 1, by omega, by go_num, by rw [HS.out], by rw [HS.out], hbr5⟩
          case measure => simp [intOf]; omega
      · have HS : Hid (heardL l long slot (ss.take (k + 1)) = hs) := by unfold Hid; rw [hS, if_neg (by simp [hpf]), List.append_nil]
        have hp0 : (0 : Int) < ((passF l long s.node s.tick).1 : Int) := by omega
        generalize ((passF l long s.node s.tick).1 : Int) = pc at *
        generalize (passF l long s.node s.tick).2 = pp at *
        clear hS hkt hpf
        go_wp2
        go_region_held3 (fun w' => w'.cell? ⟨b, off + k * 3, none⟩ = some (.int .i64 s.node) ∧ w'.cell? ⟨b, off + k * 3 + 1, none⟩ = some (.int .i64 s.tick)) (go_keep)
          ((go_at_call 37; (with_reducible refine (KP'.out _ hx).mono ?_); rintro e w5 ⟨rfl, hb5⟩; have k0 := (hb5.cell (p := ⟨b, off + k * 3, none⟩) hbl).trans q0; have k1 := (hb5.cell (p := ⟨b, off + k * 3 + 1, none⟩) hbl).trans q1; have k2 := (hb5.cell (p := ⟨b, off + k * 3 + 2, none⟩) hbl).trans q2; have hbr5 : Below W0.heap.size W0 w5 := onto (below_drewN hbr 1) hb5))
        go_wp2
        go_roundw
        case rel => exact ⟨k + 1, by omega, by go_num, by rw [HS.out], by rw [HS.out], hbr5⟩
        case measure => simp [intOf]; omega
    · have hall : ss.take k = ss := List.take_of_length_le (by have := HN2.out; omega)
      rw [hall] at hle ⊢
      generalize hHS : heardL l long slot ss = hs at *
      have HHS := Lib.hid hHS
      clear hall hHS
      have HR3 := Lib.hid (hr3.below (onto hW hbr))
      go_wp2
      obtain ⟨wo, hwo⟩ : ∃ wo : World, wo = wr := ⟨_, rfl⟩
      rw [← hwo] at hbr hszr HR3 ⊢
      clear hwo
      clear wr
      go_loopw [16, 17] (fun v i wr => ∃ j : Nat, j ≤ 16 ∧ i = .int .i64 ((j : Int) + 1) ∧ wr.ownsRow wo.heap.size 9 1 v j (encStrs ((outL hs lost).take j)) ∧ Below wo.heap.size wo wr) (fun _ i _ => 18 - (intOf i).toNat)
      case atStart => exact ⟨0, by omega, by simp, World.ownsRow_nil _ _ _ _, Below.refl _ _⟩
      case round =>
        obtain ⟨j, hj, rfl, ho, hbw⟩ := hrel
        have hszw := hbw.size
        obtain ⟨ao, co, rfl⟩ := owned_shape ho
        by_cases hlt2 : j < 16
        · have hT := outL_snoc hs lost j hlt2
          have I3 := Lib.hid (fun (W : World) (hb : Below wo.heap.size wo W) => inInts_any ((j : Int) + 1) a3 n3 cap3 lost W HN3.out (HR3.out.below hb) hc3)
          by_cases h1h : hs.length = 1
          · have hb1 : ((hs.length : Int) == 1) = true := by simp [h1h]
            by_cases hin : ((j : Int) + 1) ∈ lost
            · have HT : Hid ((outL hs lost).take (j + 1) = (outL hs lost).take j ++ [ByteArray.empty]) := by unfold Hid; rw [hT, outAt_one lost j h1h, if_pos hin]
              have HI := Lib.hid (decide_eq_true hin)
              clear hT h1h hin
              go_wp2_with (first
                | (go_at_call 72; refine (I3.out _ hbw).mono ?_; rintro e w8 ⟨rfl, rfl⟩; rw [HI.out])
                | (at_builtin; refine wpList_append2 _ rfl (.tmp 106) (.tmp 108) 81 rfl wo.heap.size 9 i0 _ 1 16 Tryd.underlying81 hi'.out hz0'.out hz1'.out hz2'.out rfl (by decide) (.slice ao j co) j (encStrs ((outL hs lost).take j)) rfl (ho.alloc _) _ 1 1 [.string ⟨#[]⟩] rfl rfl ?_ ?_ ?_ ?_ ?_ ?_; exact RowAt.new_at _ [.string ⟨#[]⟩] _ _ (by simp); (intro u hu; simp at hu; subst hu; rfl); unfold maxLen; omega; omega; (simp; omega); intro v1 w9 ho1 hg1 hq hm1; clear hq hm1; have hb9 := (hbw.alloc hszw _).grown hg1 (by simp; omega) (fun j e => (ho.lt j e).1)))
              go_roundw
              case rel => exact ⟨j + 1, by omega, by go_num, by rw [HT.out, encStrs_snoc]; exact ho1, hb9⟩
              case measure => simp [intOf]; omega
            · have HT : Hid ((outL hs lost).take (j + 1) = (outL hs lost).take j ++ [lastT hs]) := by unfold Hid; rw [hT, outAt_one lost j h1h, if_neg hin]
              have HI := Lib.hid (decide_eq_false hin)
              clear hT h1h hin
              generalize lastT hs = lt at *
              go_wp2_with (first
                | (go_at_call 72; refine (I3.out _ hbw).mono ?_; rintro e w8 ⟨rfl, rfl⟩; rw [HI.out])
                | (at_builtin; refine wpList_append2 _ rfl (.tmp 106) (.tmp 108) 81 rfl wo.heap.size 9 i0 _ 1 16 Tryd.underlying81 hi'.out hz0'.out hz1'.out hz2'.out rfl (by decide) (.slice ao j co) j (encStrs ((outL hs lost).take j)) rfl (ho.alloc _) _ 1 1 [.string lt] rfl rfl ?_ ?_ ?_ ?_ ?_ ?_; exact RowAt.new_at _ [.string lt] _ _ (by simp); (intro u hu; simp at hu; subst hu; rfl); unfold maxLen; omega; omega; (simp; omega); intro v1 w9 ho1 hg1 hq hm1; clear hq hm1; have hb9 := (hbw.alloc hszw _).grown hg1 (by simp; omega) (fun j e => (ho.lt j e).1)))
              go_roundw
              case rel => exact ⟨j + 1, by omega, by go_num, by rw [HT.out, encStrs_snoc]; exact ho1, hb9⟩
              case measure => simp [intOf]; omega
          · have hb1 : ((hs.length : Int) == 1) = false := by simp; omega
            have HT : Hid ((outL hs lost).take (j + 1) = (outL hs lost).take j ++ [ByteArray.empty]) := by unfold Hid; rw [hT, outAt_other lost j h1h]
            clear hT h1h
            cases hin : decide (((j : Int) + 1) ∈ lost)
            all_goals
              have HI := Lib.hid hin
              clear hin
              go_wp2_with (first
                | (go_at_call 72; refine (I3.out _ hbw).mono ?_; rintro e w8 ⟨rfl, rfl⟩; rw [HI.out])
                | (at_builtin; refine wpList_append2 _ rfl (.tmp 106) (.tmp 108) 81 rfl wo.heap.size 9 i0 _ 1 16 Tryd.underlying81 hi'.out hz0'.out hz1'.out hz2'.out rfl (by decide) (.slice ao j co) j (encStrs ((outL hs lost).take j)) rfl (ho.alloc _) _ 1 1 [.string ⟨#[]⟩] rfl rfl ?_ ?_ ?_ ?_ ?_ ?_; exact RowAt.new_at _ [.string ⟨#[]⟩] _ _ (by simp); (intro u hu; simp at hu; subst hu; rfl); unfold maxLen; omega; omega; (simp; omega); intro v1 w9 ho1 hg1 hq hm1; clear hq hm1; have hb9 := (hbw.alloc hszw _).grown hg1 (by simp; omega) (fun j e => (ho.lt j e).1)))
              go_roundw
              case rel => exact ⟨j + 1, by omega, by go_num, by rw [HT.out, encStrs_snoc]; exact ho1, hb9⟩
              case measure => simp [intOf]; omega
        · obtain rfl : j = 16 := by omega
          have hS : (outL hs lost).take 16 = outL hs lost := List.take_of_length_le (by rw [outL_length]; omega)
          rw [hS] at ho
          obtain ⟨ra, _, na, ma⟩ := RowAt.owned ho
          have hnB : ∀ b off, ao = some ⟨b, off, none⟩ → b ≠ w.heap.size := fun b off e => by subst e; have := (ho.lt b rfl).1; omega
          have hbW := onto hbr hbw
          obtain ⟨n0, n1, m0, m1, _⟩ := keep2 hbW hlt0 d0 d1 g0 g1
          have p0 := (hbW.cell (p := ⟨Q, 0, none⟩) hlt1).trans e0
          have p1 := (hbW.cell (p := ⟨Q, 1, none⟩) hlt1).trans e1
          have hbF := onto hW hbW
          have hfin := ra.set2 hnB (.int .i64 0) (.int .i64 (-1))
          clear ho hS
          go_wp2
          go_region
          go_wp2
          refine bodyPost_ret (v := .tuple #[.slice ao 16 co, .agg #[.int .i64 0, .int .i64 (-1)]]) (by simp [results, Tryd.results51, go_sem, n0, n1]) rfl ?_
          rw [HHS.out]
          exact ⟨_, _, _, rfl, hfin.drewN 1, outL_length _ _, below_drewN ((hbF.setCell (by simp) _).setCell (by simp) _) 1⟩

theorem hearOf_any (a a2 a3 : Option Addr) (n cap n2 cap2 n3 cap3 : Nat) (l : List Int) (ss : List Snt) (lost : List Int) (long slot : Int) (w : World) (hn : l.length = n) (hr : RowAt w a (encInts l)) (hc : n ≤ 4611686018427387904) (hn2 : ss.length = n2) (hr2 : RowAt w a2 (encSents ss)) (hn3 : lost.length = n3) (hr3 : RowAt w a3 (encInts lost)) (hc3 : n3 ≤ 4611686018427387904) :
    Calls Tryd.prog 51 #[.slice a n cap, .int .i64 long, .int .i64 slot, .slice a2 n2 cap2, .slice a3 n3 cap3] w fun e w' => ∃ a' m cap', e = .returned (.tuple #[.slice a' m cap', .agg #[.int .i64 (hearF l long slot ss lost).2.1, .int .i64 (hearF l long slot ss lost).2.2]]) ∧ RowAt w' a' (encStrs (hearF l long slot ss lost).1) ∧ (hearF l long slot ss lost).1.length = m ∧ Below w.heap.size w w' := by
  by_cases hB : hearB long slot
  · by_cases hp : (planF l).1 = 0
    · by_cases hl : 40 < n2
      · have hF : hearF l long slot ss lost = ([], 7, -1) := by rw [hearF, if_neg (by simp [hB]), if_neg (by simp [hp]), if_pos (by omega)]
        rw [hF]
        refine (hearOf_full a a2 a3 n cap n2 cap2 n3 cap3 l long slot w hn hr hc hB hp hl).mono ?_
        rintro e w' ⟨rfl, hb⟩
        exact ⟨none, 0, 0, rfl, Or.inl rfl, rfl, hb⟩
      · have hF : hearF l long slot ss lost = (outL (heardL l long slot ss) lost, 0, -1) := by rw [hearF, if_neg (by simp [hB]), if_neg (by simp [hp]), if_neg (by omega)]
        rw [hF]
        exact hearOf_ok a a2 a3 n cap n2 cap2 n3 cap3 l ss lost long slot w hn hr hn2 hr2 hn3 hr3 hc3 hB hp (by omega)
    · have hF : hearF l long slot ss lost = ([], planF l) := by rw [hearF, if_neg (by simp [hB]), if_pos hp]
      rw [hF]
      refine (hearOf_plan a a2 a3 n cap n2 cap2 n3 cap3 l long slot w hn hr hc hB hp).mono ?_
      rintro e w' ⟨rfl, hb⟩
      exact ⟨none, 0, 0, rfl, Or.inl rfl, rfl, hb⟩
  · have hF : hearF l long slot ss lost = ([], 2, -1) := by rw [hearF, if_pos hB]
    rw [hF]
    refine (hearOf_bound a a2 a3 n cap n2 cap2 n3 cap3 long slot w hB).mono ?_
    rintro e w' ⟨rfl, hb⟩
    exact ⟨none, 0, 0, rfl, Or.inl rfl, rfl, hb⟩
end Go.Proofs.YtmikeblbfmfimaaDoor
