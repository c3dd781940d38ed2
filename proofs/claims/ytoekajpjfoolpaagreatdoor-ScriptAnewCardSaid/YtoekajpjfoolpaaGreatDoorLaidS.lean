/- What the rows of the scripts' laws use besides: the errors' texts. -/
import Derived.Test.YtoekajpjfoolpaaGreatDoorLaidC
import Derived.Test.YtoekajpjfoolpaaGreatDoorScriptLaw
namespace Go.Proofs.YtoekajpjfoolpaaGreatDoor
open Go.ChangeShapes Go.WideShapes Go.ChangeAt Go.WideElems Go.RowKit

theorem globS_of {W : World} {ea : Nat → Addr} (hE : ErrType W)
    (H : ∀ k ∈ [1, 2, 3, 4, 5, 6, 7, 8, 9, 10, 11], gOf k < W.heap.size ∧ W.cell? ⟨gOf k, 0, none⟩ = some (.iface 352 (.pointer (some (ea k)))) ∧ (∃ c t, W.heap[(ea k).block]? = some (.cells c t (0, 0))) ∧ ∃ s, W.cell? (ea k) = some (.string s) ∧ s.data.toList = txtOf k) : GlobC W ea ∧ ∃ txt, ErrTxt txt ea W :=
  ⟨globC_of hE H, txtOf, fun k h1 h2 => by
    obtain ⟨_, _, ⟨c, t, hb⟩, s, hc, hs⟩ := H k (by simp; omega)
    refine ⟨(Array.getElem?_eq_some_iff.1 hb).1, ?_⟩
    rw [hc, ← hs]⟩
end Go.Proofs.YtoekajpjfoolpaaGreatDoor
