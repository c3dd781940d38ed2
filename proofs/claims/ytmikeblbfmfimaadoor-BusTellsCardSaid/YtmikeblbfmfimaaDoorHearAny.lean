/- bus.Hear, one contract; the reference's HearOf. -/
import Derived.Test.YtmikeblbfmfimaaDoorHear
import Derived.Test.YtmikeblbfmfimaaDoorHearErr
import Derived.Test.YtmikeblbfmfimaaDoorRefGuard
import Derived.Deep.RegionHeld3
namespace Go.Proofs.YtmikeblbfmfimaaDoor
open Go.RowKit

instance (long slot : Int) : Decidable (hearB long slot) := by unfold hearB; exact inferInstance
def hearF (l : List Int) (long slot : Int) (ss : List Snt) (lost : List Int) : List ByteArray × Nat × Int :=
  if ¬ hearB long slot then ([], 2, -1) else if (planF l).1 ≠ 0 then ([], planF l) else if 40 < ss.length then ([], 7, -1) else (outL (heardL l long slot ss) lost, 0, -1)
theorem hearF_le (l : List Int) (long slot : Int) (ss : List Snt) (lost : List Int) : (hearF l long slot ss lost).2.1 ≤ 11 := by
  have := planF_le l
  unfold hearF; repeat (first | exact Nat.le_of_ble_eq_true rfl | assumption | split)

theorem hear_any (ea : Nat → Addr) (a a2 a3 : Option Addr) (n cap n2 cap2 n3 cap3 : Nat) (l : List Int) (ss : List Snt) (lost : List Int) (long slot : Int) (w : World) (hg : Glob w ea [5, 7, 4, 2, 9])
    (hn : l.length = n) (hr : RowAt w a (encInts l)) (hc : n ≤ 4611686018427387904) (hn2 : ss.length = n2) (hr2 : RowAt w a2 (encSents ss)) (hn3 : lost.length = n3) (hr3 : RowAt w a3 (encInts lost)) (hc3 : n3 ≤ 4611686018427387904) :
    Calls Tryd.prog 49 #[.slice a n cap, .int .i64 long, .int .i64 slot, .slice a2 n2 cap2, .slice a3 n3 cap3] w fun e w' => ∃ a' m cap' v, e = .returned (.tuple #[.slice a' m cap', v]) ∧ RowAt w' a' (encStrs (hearF l long slot ss lost).1) ∧ (hearF l long slot ss lost).1.length = m ∧ m ≤ 4611686018427387904
      ∧ ErrIs ea w' v (hearF l long slot ss lost).2.1 (hearF l long slot ss lost).2.2 ∧ Below w.heap.size w w' := by
  by_cases hB : hearB long slot
  · by_cases hp : (planF l).1 = 0
    · by_cases hl : 40 < n2
      · have hF : hearF l long slot ss lost = ([], 7, -1) := by rw [hearF, if_neg (by simp [hB]), if_neg (by simp [hp]), if_pos (by omega)]
        rw [hF]
        refine (hear_full ea a a2 a3 n cap n2 cap2 n3 cap3 l long slot w hg hn hr hc hB hp hl).mono ?_
        rintro e w' ⟨rfl, hb⟩
        exact ⟨none, 0, 0, _, rfl, Or.inl rfl, rfl, by omega, ErrIs.bare ea w' 7, hb⟩
      · have hF : hearF l long slot ss lost = (outL (heardL l long slot ss) lost, 0, -1) := by rw [hearF, if_neg (by simp [hB]), if_neg (by simp [hp]), if_neg (by omega)]
        rw [hF]
        refine (hear_ok ea a a2 a3 n cap n2 cap2 n3 cap3 l ss lost long slot w hg hn hr hc hn2 hr2 hn3 hr3 hc3 hB hp (by omega)).mono ?_
        rintro e w' ⟨a', cap', rfl, hra, hb⟩
        exact ⟨a', 16, cap', _, rfl, hra, outL_length _ _, by omega, Or.inl ⟨rfl, (errV_zero ea).symm⟩, hb⟩
    · have hF : hearF l long slot ss lost = ([], planF l) := by rw [hearF, if_neg (by simp [hB]), if_pos hp]
      rw [hF]
      refine (hear_plan ea a a2 a3 n cap n2 cap2 n3 cap3 l long slot w hg hn hr hc hB hp).mono ?_
      rintro e w' ⟨v, rfl, hE, hb⟩
      exact ⟨none, 0, 0, v, rfl, Or.inl rfl, rfl, by omega, hE, hb⟩
  · have hF : hearF l long slot ss lost = ([], 2, -1) := by rw [hearF, if_pos hB]
    rw [hF]
    refine (hear_bound ea a a2 a3 n cap n2 cap2 n3 cap3 long slot w hg hB).mono ?_
    rintro e w' ⟨rfl, hb⟩
    exact ⟨none, 0, 0, _, rfl, Or.inl rfl, rfl, by omega, ErrIs.bare ea w' 2, hb⟩
end Go.Proofs.YtmikeblbfmfimaaDoor
