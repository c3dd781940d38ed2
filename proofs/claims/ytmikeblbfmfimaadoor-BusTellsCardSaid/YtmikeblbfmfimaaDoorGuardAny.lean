/- guard: Slot and Wait, one contract each. -/
import Derived.Test.YtmikeblbfmfimaaDoorWait
import Derived.Test.YtmikeblbfmfimaaDoorPlanAny
namespace Go.Proofs.YtmikeblbfmfimaaDoor
open Go.RowKit

theorem slotE_le (long tick : Int) : slotE long tick ≤ 11 := by unfold slotE; split <;> omega
def slotN (long tick : Int) : Int := if slotE long tick = 0 then tick / long else 0
theorem guardSlot_any (ea : Nat → Addr) (long tick : Int) (w : World) (hg : Glob w ea [2]) :
    Calls Tryd.prog 35 #[.int .i64 long, .int .i64 tick] w fun e w' => ∃ v, e = .returned (.tuple #[.int .i64 (slotN long tick), v]) ∧ ErrIs ea w' v (slotE long tick) (-1) ∧ Below w.heap.size w w' := by
  by_cases h : slotE long tick = 0
  · refine (guardSlot_ok long tick w h).mono ?_
    rintro e w' ⟨rfl, rfl⟩
    exact ⟨_, by rw [slotN, if_pos h], by rw [h]; exact Or.inl ⟨rfl, (errV_zero ea).symm⟩, Below.refl _ _⟩
  · refine (guardSlot_err ea long tick w hg h).mono ?_
    rintro e w' ⟨rfl, hb⟩
    exact ⟨_, by rw [slotN, if_neg h], by rw [(slotE_bad h).1]; exact ErrIs.bare ea w' 2, hb⟩

theorem passF_le (l : List Int) (long node tick : Int) : (passF l long node tick).1 ≤ 11 := by
  have := planF_le l
  unfold passF; repeat (first | exact Nat.le_of_ble_eq_true rfl | assumption | split)

def waitF (l : List Int) (long node tick : Int) : Int × Nat × Int :=
  if slotE long tick ≠ 0 then (0, 2, -1) else
  if (nextF l node (tick / long)).2.1 ≠ 0 then (0, (nextF l node (tick / long)).2) else
  if 1000000 < max tick ((nextF l node (tick / long)).1 * long) then (0, 2, -1) else (max tick ((nextF l node (tick / long)).1 * long), 0, -1)
theorem waitF_le (l : List Int) (long node tick : Int) : (waitF l long node tick).2.1 ≤ 11 := by
  have := nextF_le l node (tick / long)
  unfold waitF; repeat (first | exact Nat.le_of_ble_eq_true rfl | assumption | split)

/-- A slot's ticks. -/
theorem slot_mul {long tick : Int} (h : 1 ≤ long) : tick / long * long ≤ tick ∧ tick < (tick / long + 1) * long := by
  have h1 := Int.ediv_mul_le tick (b := long) (by omega)
  have h2 := Int.lt_ediv_add_one_mul_self tick (b := long) (by omega)
  exact ⟨h1, h2⟩

theorem wait_any (ea : Nat → Addr) (a : Option Addr) (n cap : Nat) (l : List Int) (long node tick : Int) (w : World) (hg : Glob w ea [5, 7, 4, 2]) (hn : l.length = n) (hr : RowAt w a (encInts l)) (hc : n ≤ 4611686018427387904) :
    Calls Tryd.prog 38 #[.slice a n cap, .int .i64 long, .int .i64 node, .int .i64 tick] w fun e w' => ∃ v, e = .returned (.tuple #[.int .i64 (waitF l long node tick).1, v]) ∧ ErrIs ea w' v (waitF l long node tick).2.1 (waitF l long node tick).2.2 ∧ Below w.heap.size w w' := by
  by_cases h : slotE long tick = 0
  · obtain ⟨s, hs, hs1⟩ := slot_nat h
    obtain ⟨h1, h2, h3, h4⟩ := slotE_ok h
    by_cases hp : (planF l).1 = 0
    · have hR : (rightF l (s : Int)).1 = 0 := by rw [rightF_of l hs1, if_pos hp]
      have hmul := slot_mul (tick := tick) h1
      rw [hs] at hmul
      rcases first_or_none (fun j => whoV l (s + j) = node) n with ⟨m, hm, hw, hno⟩ | hno
      · have hF : nextF l node s = ((s : Int) + m, 0, -1) := by rw [nextF, if_pos hR, Int.toNat_natCast, nextAt_some (by omega) hw hno]
        by_cases hm0 : m = 0
        · subst hm0
          have hW : waitF l long node tick = (tick, 0, -1) := by
            rw [waitF, if_neg (by simp [h]), hs, hF, if_neg (by simp)]
            have e : max tick (((s : Int) + (0 : Nat)) * long) = tick := by rw [Int.max_eq_left]; simpa using hmul.1
            simp only at e ⊢
            rw [e, if_neg (by omega)]
          rw [hW]
          refine (wait_now ea a n cap l long node tick s w hg hn hr h hs hp hw).mono ?_
          rintro e w' ⟨rfl, hb⟩
          exact ⟨_, rfl, Or.inl ⟨rfl, (errV_zero ea).symm⟩, hb⟩
        · have hge : tick < ((s + m : Nat) : Int) * long := by
            have e1 : ((s : Int) + 1) * long ≤ ((s + m : Nat) : Int) * long := Int.mul_le_mul_of_nonneg_right (by omega) (by omega)
            omega
          refine (wait_later ea a n cap l long node tick s m w hg hn hr h hs hp (by omega) hm hw hno).mono ?_
          rintro e w' ⟨he, hb⟩
          have hx : max tick (((s : Int) + m) * long) = ((s + m : Nat) : Int) * long := by rw [Int.natCast_add] at hge ⊢; exact Int.max_eq_right (by omega)
          by_cases hf : ((s + m : Nat) : Int) * long ≤ 1000000
          · rw [if_pos hf] at he
            have hW : waitF l long node tick = (((s + m : Nat) : Int) * long, 0, -1) := by
              rw [waitF, if_neg (by simp [h]), hs, hF, if_neg (by simp)]
              simp only [hx]
              rw [if_neg (by omega)]
            rw [hW]
            exact ⟨_, he, Or.inl ⟨rfl, (errV_zero ea).symm⟩, hb⟩
          · rw [if_neg hf] at he
            have hW : waitF l long node tick = (0, 2, -1) := by
              rw [waitF, if_neg (by simp [h]), hs, hF, if_neg (by simp)]
              simp only [hx]
              rw [if_pos (by omega)]
            rw [hW]
            exact ⟨_, he, ErrIs.bare ea w' 2, hb⟩
      · have hF : nextF l node s = (0, 5, -1) := by rw [nextF, if_pos hR, Int.toNat_natCast, nextAt_none (by rw [hn]; exact hno)]
        have hW : waitF l long node tick = (0, 5, -1) := by rw [waitF, if_neg (by simp [h]), hs, hF, if_pos (by simp)]
        rw [hW]
        refine (wait_none ea a n cap l long node tick s w hg hn hr h hs hp hno).mono ?_
        rintro e w' ⟨rfl, hb⟩
        exact ⟨_, rfl, ErrIs.bare ea w' 5, hb⟩
    · have hR : rightF l (s : Int) = planF l := by rw [rightF_of l hs1, if_neg hp]
      have hF : nextF l node s = (0, planF l) := by rw [nextF, hR, if_neg hp]
      have hW : waitF l long node tick = (0, planF l) := by rw [waitF, if_neg (by simp [h]), hs, hF, if_pos hp]
      rw [hW]
      refine (wait_plan ea a n cap l long node tick w hg hn hr hc h hp).mono ?_
      rintro e w' ⟨v, rfl, hE, hb⟩
      exact ⟨v, rfl, hE, hb⟩
  · have hW : waitF l long node tick = (0, 2, -1) := by rw [waitF, if_pos h]
    rw [hW]
    refine (wait_tick ea a n cap long node tick w (hg.sub (by simp)) h).mono ?_
    rintro e w' ⟨rfl, hb⟩
    exact ⟨_, rfl, ErrIs.bare ea w' 2, hb⟩
end Go.Proofs.YtmikeblbfmfimaaDoor
