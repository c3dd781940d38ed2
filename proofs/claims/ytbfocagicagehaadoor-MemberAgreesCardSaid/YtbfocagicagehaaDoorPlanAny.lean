/- plan: one contract for each function, whatever the plan. -/
import Derived.Test.YtbfocagicagehaaDoorPlan2
namespace Go.Proofs.YtbfocagicagehaaDoor
open Go.RowKit

theorem planF_le (l : List Int) : (planF l).1 ≤ 11 := by unfold planF; repeat (first | (exact Nat.le_of_ble_eq_true rfl) | split)
theorem rightF_le (l : List Int) (s : Int) : (rightF l s).1 ≤ 11 := by
  unfold rightF; split
  · split <;> simp
  · exact planF_le l
theorem rightF_zero {l : List Int} {s : Int} (h : (rightF l s).1 = 0) : rightF l s = (0, -1) := by
  have h0 := (rightF_ok h)
  rw [rightF, if_pos h0.1, if_pos h0.2]
theorem rightF_bad {l : List Int} (h : (planF l).1 ≠ 0) (s : Int) : rightF l s = planF l := by rw [rightF, if_neg h]

def whoF (l : List Int) (s : Int) : Int := if (rightF l s).1 = 0 then whoV l s.toNat else 0
theorem who_any (ea : Nat → Addr) (a : Option Addr) (n cap : Nat) (l : List Int) (s : Int) (w : World) (hg : Glob w ea [5, 7, 4, 2]) (hn : l.length = n) (hr : RowAt w a (encInts l)) (hc : n ≤ 4611686018427387904) :
    Calls Tryd.prog 17 #[.slice a n cap, .int .i64 s] w fun e w' => ∃ v, e = .returned (.tuple #[.int .i64 (whoF l s), v]) ∧ ErrIs ea w' v (rightF l s).1 (rightF l s).2 ∧ Below w.heap.size w w' := by
  by_cases h : (rightF l s).1 = 0
  · have h1 := rightF_zero h
    obtain ⟨k, rfl⟩ : ∃ k : Nat, s = k := ⟨s.toNat, by have := (rightF_ok h).2.1; omega⟩
    refine (who_ok ea a n cap l k w hg hn hr h).mono ?_
    rintro e w' ⟨rfl, hb⟩
    exact ⟨_, by rw [whoF, if_pos h]; rfl, by rw [h1]; exact Or.inl ⟨rfl, (errV_zero ea).symm⟩, hb⟩
  · refine (who_err ea a n cap l s w hg hn hr hc h).mono ?_
    rintro e w' ⟨v, rfl, hE, hb⟩
    exact ⟨v, by rw [whoF, if_neg h], hE, hb⟩

def planCrewF (l : List Int) : Int := if (planF l).1 = 0 then crewOf l else 0
def shareF (l : List Int) (node : Int) : Int := if (planF l).1 = 0 then l.count node else 0
/-- The place of a node's next slot, from slot s on. -/
def nextAt (l : List Int) (node : Int) (s : Nat) : Option Nat := (List.range l.length).find? fun j => whoV l (s + j) == node
theorem nextAt_some {l : List Int} {node : Int} {s m : Nat} (hm : m < l.length) (hw : whoV l (s + m) = node) (hno : ∀ j, j < m → ¬ whoV l (s + j) = node) : nextAt l node s = some m := by
  rw [nextAt, List.find?_range_eq_some]
  refine ⟨by simpa using hw, by simpa using hm, fun j hj => by simpa using hno j hj⟩
theorem nextAt_none {l : List Int} {node : Int} {s : Nat} (hno : ∀ j, j < l.length → ¬ whoV l (s + j) = node) : nextAt l node s = none := by
  rw [nextAt, List.find?_range_eq_none]
  exact fun j hj => by simpa using hno j hj
def nextF (l : List Int) (node s : Int) : Int × Nat × Int :=
  if (rightF l s).1 = 0 then (match nextAt l node s.toNat with | some m => (s + m, 0, -1) | none => (0, 5, -1)) else (0, rightF l s)
theorem nextF_le (l : List Int) (node s : Int) : (nextF l node s).2.1 ≤ 11 := by
  unfold nextF; split
  · split <;> simp
  · exact rightF_le l s
def roundA (l : List Int) (s : Int) : Int := if (rightF l s).1 = 0 then s / l.length else 0
def roundB (l : List Int) (s : Int) : Int := if (rightF l s).1 = 0 then s % l.length else 0
end Go.Proofs.YtbfocagicagehaaDoor
