/- guard: Slot, Pass, Wait. -/
import Derived.Test.YtmikeblbfmfimaaDoorPlan2
namespace Go.Proofs.YtmikeblbfmfimaaDoor
open Go.RowKit

/-- guard.Slot's error. -/
def slotE (long tick : Int) : Nat := if 1 ≤ long ∧ long ≤ 1000000 ∧ 0 ≤ tick ∧ tick ≤ 1000000 then 0 else 2
theorem slotE_ok {long tick : Int} (h : slotE long tick = 0) : 1 ≤ long ∧ long ≤ 1000000 ∧ 0 ≤ tick ∧ tick ≤ 1000000 := by
  unfold slotE at h
  split at h
  · assumption
  · simp at h
theorem slotE_bad {long tick : Int} (h : slotE long tick ≠ 0) : slotE long tick = 2 ∧ (long < 1 ∨ 1000000 < long ∨ tick < 0 ∨ 1000000 < tick) := by
  unfold slotE at h ⊢
  split at h
  · simp at h
  · rename_i h1; rw [if_neg h1]; exact ⟨rfl, by omega⟩

theorem guardSlot_ok (long tick : Int) (w : World) (h : slotE long tick = 0) :
    Calls Tryd.prog 35 #[.int .i64 long, .int .i64 tick] w fun e w' => e = .returned (.tuple #[.int .i64 (tick / long), .nilIface]) ∧ w = w' := by
  obtain ⟨h1, h2, h3, h4⟩ := slotE_ok h
  clear h
  have hz : (long == 0) = false := by simp; omega
  go_enter Tryd.func35, Tryd.ntmps35
  go_wp2
  go_ret2
  exact ⟨rfl, rfl⟩

theorem guardSlot_err (ea : Nat → Addr) (long tick : Int) (w : World) (hg : Glob w ea [2]) (h : slotE long tick ≠ 0) :
    Calls Tryd.prog 35 #[.int .i64 long, .int .i64 tick] w fun e w' => e = .returned (.tuple #[.int .i64 0, errV ea 2]) ∧ Below w.heap.size w w' := by
  have g2 := hg.cell 2 (by simp)
  simp only [gOf] at g2
  have h2 := (slotE_bad h).2
  clear h
  by_cases a1 : long < 1
  · have b1 : decide (long < 1) = true := by simpa using a1
    go_enter Tryd.func35, Tryd.ntmps35
    go_wp2
    go_quiet (fail)
    go_wp2
    go_ret2
    exact ⟨rfl, below_drewN (Below.refl _ _) _⟩
  · have b1 : decide (long < 1) = false := by simpa using a1
    by_cases a2 : 1000000 < long
    · have b2 : decide (1000000 < long) = true := by simpa using a2
      clear a1 a2 h2
      go_enter Tryd.func35, Tryd.ntmps35
      go_wp2
      go_quiet (fail)
      go_wp2
      go_ret2
      exact ⟨rfl, below_drewN (Below.refl _ _) _⟩
    · have b2 : decide (1000000 < long) = false := by simpa using a2
      by_cases a3 : tick < 0
      · have b3 : decide (tick < 0) = true := by simpa using a3
        clear a1 a2 a3 h2
        go_enter Tryd.func35, Tryd.ntmps35
        go_wp2
        go_quiet (fail)
        go_wp2
        go_ret2
        exact ⟨rfl, below_drewN (Below.refl _ _) _⟩
      · have b3 : decide (tick < 0) = false := by simpa using a3
        have a4 : 1000000 < tick := by omega
        have b4 : decide (1000000 < tick) = true := by simpa using a4
        clear a1 a2 a3 a4 h2
        go_enter Tryd.func35, Tryd.ntmps35
        go_wp2
        go_quiet (fail)
        go_wp2
        go_ret2
        exact ⟨rfl, below_drewN (Below.refl _ _) _⟩

/-- guard.Pass: the error. -/
def passF (l : List Int) (long node tick : Int) : Nat × Int :=
  if slotE long tick ≠ 0 then (2, -1) else if (planF l).1 ≠ 0 then planF l else if whoV l (tick / long).toNat = node then (0, -1) else (9, -1)

theorem slot_nat {long tick : Int} (h : slotE long tick = 0) : ∃ s : Nat, tick / long = s ∧ s ≤ 1000000 := by
  obtain ⟨h1, h2, h3, h4⟩ := slotE_ok h
  have p1 : 0 ≤ tick / long := Int.ediv_nonneg h3 (by omega)
  have p2 : tick / long ≤ tick := Int.ediv_le_self _ h3
  exact ⟨(tick / long).toNat, by omega, by omega⟩
theorem rightF_of (l : List Int) {s : Nat} (hs : s ≤ 1000000) : rightF l s = if (planF l).1 = 0 then (0, -1) else planF l := by
  unfold rightF
  split
  · rw [if_pos (by omega)]
  · rfl

set_option maxHeartbeats 400000 in
theorem pass_any (ea : Nat → Addr) (a : Option Addr) (n cap : Nat) (l : List Int) (long node tick : Int) (w : World) (hg : Glob w ea [5, 7, 4, 2, 9]) (hn : l.length = n) (hr : RowAt w a (encInts l)) (hc : n ≤ 4611686018427387904) :
    Calls Tryd.prog 36 #[.slice a n cap, .int .i64 long, .int .i64 node, .int .i64 tick] w fun e w' => ∃ v, e = .returned v ∧ ErrIs ea w' v (passF l long node tick).1 (passF l long node tick).2 ∧ Below w.heap.size w w' := by
  have hg2 : Glob w ea [2] := hg.sub (by simp)
  have hgw : Glob w ea [5, 7, 4, 2] := hg.sub (by simp)
  have HN := Lib.hid hn
  clear hn
  by_cases h : slotE long tick = 0
  · obtain ⟨s, hs, hs1⟩ := slot_nat h
    have HS := Lib.hid hs
    have HR := Lib.hid (rightF_of l hs1)
    have C1 := Lib.hid (guardSlot_ok long tick w h)
    rw [hs] at C1
    by_cases hp : (planF l).1 = 0
    · have HP : Hid (passF l long node tick = if whoV l s = node then (0, -1) else (9, -1)) := by
        unfold Hid; rw [passF, if_neg (by simp [h]), if_neg (by simp [hp]), HS.out]; rfl
      have HZ : Hid ((rightF l s).1 = 0) := by unfold Hid; rw [HR.out, if_pos hp]
      clear h hs hp
      by_cases hw : whoV l s = node
      · have hx : (whoV l s != node) = false := by simpa using hw
        have HX := Lib.hid hx
        have HW := Lib.hid hw
        clear hw hx
        go_enter Tryd.func36, Tryd.ntmps36
        go_wp2_with (first
          | (go_at_call 35; refine (C1.out).mono ?_; rintro e w1 ⟨rfl, rfl⟩)
          | (go_at_call 28; refine (who_ok ea _ _ _ l s _ hgw HN.out hr HZ.out).mono ?_; rintro e w2 ⟨rfl, hb⟩; have hx := HX.out))
        go_ret
        exact ⟨_, rfl, by rw [HP.out, if_pos HW.out]; exact Or.inl ⟨rfl, (errV_zero ea).symm⟩, hb⟩
      · have hx : (whoV l s != node) = true := by simpa using hw
        have HX := Lib.hid hx
        have HW := Lib.hid hw
        clear hw hx
        go_enter Tryd.func36, Tryd.ntmps36
        go_wp2_with (first
          | (go_at_call 35; refine (C1.out).mono ?_; rintro e w1 ⟨rfl, rfl⟩)
          | (go_at_call 28; refine (who_ok ea _ _ _ l s _ hgw HN.out hr HZ.out).mono ?_; rintro e w2 ⟨rfl, hb⟩; have hx := HX.out; have g9 := (hg.below hb).cell 9 (by simp); simp only [gOf] at g9))
        go_ret
        exact ⟨_, rfl, by rw [HP.out, if_neg HW.out]; exact ErrIs.bare ea _ 9, hb⟩
    · have HP : Hid (passF l long node tick = rightF l s) := by
        unfold Hid; rw [passF, if_neg (by simp [h]), if_pos hp, HR.out, if_neg hp]
      have HZ : Hid ((rightF l s).1 ≠ 0) := by unfold Hid; rw [HR.out, if_neg hp]; exact hp
      clear h hs hp
      go_enter Tryd.func36, Tryd.ntmps36
      go_wp2_with (first
        | (go_at_call 35; refine (C1.out).mono ?_; rintro e w1 ⟨rfl, rfl⟩)
        | (go_at_call 28; refine (who_err ea _ _ _ l s _ hgw HN.out hr hc HZ.out).mono ?_; rintro e w2 ⟨v, rfl, hE, hb⟩; obtain ⟨t, x, rfl⟩ := hE.held HZ.out))
      go_ret
      exact ⟨_, rfl, by rw [HP.out]; exact hE, hb⟩
  · have HP : Hid (passF l long node tick = (2, -1)) := by unfold Hid; rw [passF, if_pos h]
    have H2 := Lib.hid (errV_pos ea (k := 2) (by decide))
    have H := Lib.hid h
    clear h
    go_enter Tryd.func36, Tryd.ntmps36
    go_wp2_with (go_at_call 35; refine (guardSlot_err ea _ _ _ hg2 H.out).mono ?_; rintro e w1 ⟨rfl, hb⟩; rw [H2.out])
    go_ret
    exact ⟨_, rfl, by rw [HP.out, ← H2.out]; exact ErrIs.bare ea _ 2, hb⟩
end Go.Proofs.YtmikeblbfmfimaaDoor
