/- bus.Hear: its errors. -/
import Derived.Test.YtmikeblbfmfimaaDoorHear
namespace Go.Proofs.YtmikeblbfmfimaaDoor
open Go.RowKit

theorem slotE_long {long : Int} (h : long < 1 ∨ 1000000 < long) (tick : Int) : slotE long tick ≠ 0 := by
  rw [slotE, if_neg (by omega)]; decide

set_option maxRecDepth 100000 in
set_option maxHeartbeats 800000 in
theorem hear_bound (ea : Nat → Addr) (a a2 a3 : Option Addr) (n cap n2 cap2 n3 cap3 : Nat) (long slot : Int) (w : World) (hg : Glob w ea [5, 7, 4, 2, 9])
    (hB : ¬ hearB long slot) :
    Calls Tryd.prog 49 #[.slice a n cap, .int .i64 long, .int .i64 slot, .slice a2 n2 cap2, .slice a3 n3 cap3] w fun e w' => e = .returned (.tuple #[.slice none 0 0, errV ea 2]) ∧ Below w.heap.size w w' := by
  have g2 := hg.cell 2 (by simp)
  simp only [gOf] at g2
  by_cases a1 : slot < 0
  · have b1 : decide (slot < 0) = true := by simpa using a1
    clear hB
    go_enter Tryd.func49, Tryd.ntmps49
    go_wp2
    go_quiet (fail)
    go_wp2
    go_ret2
    exact ⟨rfl, below_drewN (Below.refl _ _) _⟩
  have b1 : decide (slot < 0) = false := by simpa using a1
  by_cases a2 : 1000000 < slot
  · have b2 : decide (1000000 < slot) = true := by simpa using a2
    clear hB a1
    go_enter Tryd.func49, Tryd.ntmps49
    go_wp2
    go_quiet (fail)
    go_wp2
    go_ret2
    exact ⟨rfl, below_drewN (Below.refl _ _) _⟩
  have b2 : decide (1000000 < slot) = false := by simpa using a2
  by_cases a3 : long < 1
  · have b3 : decide (0 < long) = false := by simp; omega
    have hE := Lib.hid (slotE_long (Or.inl a3))
    have H2 := Lib.hid (errV_pos ea (k := 2) (by decide))
    have hl : long ≤ 0 := by omega
    clear hB a1 a2 b3
    by_cases hl0 : long = 0
    · subst hl0
      clear hl a3
      go_enter Tryd.func49, Tryd.ntmps49
      go_wp2_with fail
      refine (guardSlot_err ea 0 _ _ (hg.sub (by simp)) (hE.out _)).mono ?_
      rintro e w1 ⟨rfl, hb⟩
      rw [H2.out]
      go_wp2
      go_ret2
      rw [H2.out]
      exact ⟨rfl, hb⟩
    · have hl1 : long < 0 := by omega
      clear hl0 a3 hl
      go_enter Tryd.func49, Tryd.ntmps49
      go_wp2_with fail
      refine (guardSlot_err ea long _ _ (hg.sub (by simp)) (hE.out _)).mono ?_
      rintro e w1 ⟨rfl, hb⟩
      rw [H2.out]
      go_wp2
      go_ret2
      rw [H2.out]
      exact ⟨rfl, hb⟩
  have b3 : decide (0 < long) = true := by simp; omega
  have hl1 : 1 ≤ long := by omega
  have hz : (long == 0) = false := by simp; omega
  by_cases a4 : 1000000 / long < slot
  · have b4 : decide (1000000 / long < slot) = true := by simpa using a4
    clear hB a1 a2 a3 a4
    go_enter Tryd.func49, Tryd.ntmps49
    go_wp2
    go_quiet (fail)
    go_wp2
    go_ret2
    exact ⟨rfl, below_drewN (Below.refl _ _) _⟩
  have b4 : decide (1000000 / long < slot) = false := by simpa using a4
  have hlong : 1000000 < long := by
    by_cases h : 1000000 < long
    · exact h
    · exact absurd ⟨hl1, by omega, by omega, (Int.le_ediv_iff_mul_le (by omega)).1 (by omega)⟩ hB
  have hq0 : (1000000 : Int) / long = 0 := Int.ediv_eq_zero_of_lt (by omega) hlong
  obtain rfl : slot = 0 := by omega
  have hE := Lib.hid (slotE_long (Or.inr hlong))
  have H2 := Lib.hid (errV_pos ea (k := 2) (by decide))
  clear hB a1 a2 a3 a4 hq0
  go_enter Tryd.func49, Tryd.ntmps49
  go_wp2_with fail
  refine (guardSlot_err ea long _ _ (hg.sub (by simp)) (hE.out _)).mono ?_
  rintro e w1 ⟨rfl, hb⟩
  rw [H2.out]
  go_wp2
  go_ret2
  rw [H2.out]
  exact ⟨rfl, hb⟩

set_option maxRecDepth 100000 in
set_option maxHeartbeats 800000 in
theorem hear_plan (ea : Nat → Addr) (a a2 a3 : Option Addr) (n cap n2 cap2 n3 cap3 : Nat) (l : List Int) (long slot : Int) (w : World) (hg : Glob w ea [5, 7, 4, 2, 9])
    (hn : l.length = n) (hr : RowAt w a (encInts l)) (hc : n ≤ 4611686018427387904) (hB : hearB long slot) (hp : (planF l).1 ≠ 0) :
    Calls Tryd.prog 49 #[.slice a n cap, .int .i64 long, .int .i64 slot, .slice a2 n2 cap2, .slice a3 n3 cap3] w fun e w' => ∃ v, e = .returned (.tuple #[.slice none 0 0, v]) ∧ ErrIs ea w' v (planF l).1 (planF l).2 ∧ Below w.heap.size w w' := by
  obtain ⟨h1, h2, h3, h4⟩ := hB
  have hs6 : slot ≤ 1000000 := by
    have : slot * 1 ≤ slot * long := Int.mul_le_mul_of_nonneg_left h1 h3
    omega
  have hq : slot ≤ 1000000 / long := (Int.le_ediv_iff_mul_le (by omega)).2 h4
  have hm0 : 0 ≤ slot * long := Int.mul_nonneg h3 (by omega)
  have hE : slotE long (slot * long) = 0 := by rw [slotE, if_pos ⟨h1, h2, hm0, h4⟩]
  have C1 := Lib.hid (fun (W : World) => guardSlot_ok long (slot * long) W hE)
  have HN := Lib.hid hn
  have HP := Lib.hid hp
  have d1 : decide (1000000 / long < slot) = false := by simp; omega
  clear hE hn hp
  go_enter Tryd.func49, Tryd.ntmps49
  go_wp2_with fail
  refine (C1.out _).mono ?_
  rintro e w1 ⟨rfl, rfl⟩
  go_wp2_with fail
  refine (planCheck_any ea _ _ _ l _ (hg.sub (by simp)) HN.out hr hc).mono ?_
  rintro e w2 ⟨v, rfl, hE, hb2⟩
  obtain ⟨t, x, rfl⟩ := hE.held HP.out
  go_wp2
  go_ret2
  exact ⟨_, rfl, hE, hb2⟩

set_option maxRecDepth 100000 in
set_option maxHeartbeats 800000 in
theorem hear_full (ea : Nat → Addr) (a a2 a3 : Option Addr) (n cap n2 cap2 n3 cap3 : Nat) (l : List Int) (long slot : Int) (w : World) (hg : Glob w ea [5, 7, 4, 2, 9])
    (hn : l.length = n) (hr : RowAt w a (encInts l)) (hc : n ≤ 4611686018427387904) (hB : hearB long slot) (hp : (planF l).1 = 0) (hl : 40 < n2) :
    Calls Tryd.prog 49 #[.slice a n cap, .int .i64 long, .int .i64 slot, .slice a2 n2 cap2, .slice a3 n3 cap3] w fun e w' => e = .returned (.tuple #[.slice none 0 0, errV ea 7]) ∧ Below w.heap.size w w' := by
  obtain ⟨h1, h2, h3, h4⟩ := hB
  have hs6 : slot ≤ 1000000 := by
    have : slot * 1 ≤ slot * long := Int.mul_le_mul_of_nonneg_left h1 h3
    omega
  have hq : slot ≤ 1000000 / long := (Int.le_ediv_iff_mul_le (by omega)).2 h4
  have hm0 : 0 ≤ slot * long := Int.mul_nonneg h3 (by omega)
  have hE : slotE long (slot * long) = 0 := by rw [slotE, if_pos ⟨h1, h2, hm0, h4⟩]
  have C1 := Lib.hid (fun (W : World) => guardSlot_ok long (slot * long) W hE)
  have HN := Lib.hid hn
  have HP := Lib.hid hp
  have d1 : decide (1000000 / long < slot) = false := by simp; omega
  clear hE hn hp
  go_enter Tryd.func49, Tryd.ntmps49
  go_wp2_with fail
  refine (C1.out _).mono ?_
  rintro e w1 ⟨rfl, rfl⟩
  go_wp2_with fail
  refine (planCheck_any ea _ _ _ l _ (hg.sub (by simp)) HN.out hr hc).mono ?_
  rintro e w2 ⟨v, rfl, hE, hb2⟩
  rw [HP.out] at hE
  obtain rfl := hE.nil
  have g7 : w2.cell? ⟨gOf 7, 0, none⟩ = some (errV ea 7) := (hg.below hb2).cell 7 (by simp)
  simp only [gOf] at g7
  go_wp2
  go_quiet (fail)
  go_wp2
  go_ret2
  exact ⟨rfl, below_drewN hb2 _⟩
end Go.Proofs.YtmikeblbfmfimaaDoor
