/- ClusterAgrees: the law's walk. -/
import Derived.Test.YtkjmgfpbngiipaaGreatDoorClusLaw
namespace Go.Proofs.YtkjmgfpbngiipaaGreatDoor
open Go.RowKit Go.Maps

theorem Agree.actF {c : CP} (h : Agree c.f) (a : ActR) : Agree (c.actF a []).1.f := by
  unfold CP.actF
  split
  · exact h.set _ _
  · split
    · exact h.turn _ _ (Or.inl rfl)
    · split
      · exact h.turn _ _ (Or.inr rfl)
      · split
        · exact h.ask _
        · unfold CP.slotF
          split
          · exact h.slot _
          · exact h
end Go.Proofs.YtkjmgfpbngiipaaGreatDoor
