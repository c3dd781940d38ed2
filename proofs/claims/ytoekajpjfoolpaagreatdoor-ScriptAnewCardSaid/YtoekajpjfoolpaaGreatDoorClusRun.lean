/- acts on a cluster: what they do; play of the laws. -/
import Derived.Test.YtoekajpjfoolpaaGreatDoorClusPlay
import Derived.Test.YtoekajpjfoolpaaGreatDoorClusSlot
import Derived.Test.YtoekajpjfoolpaaGreatDoorClusNew
import Derived.Test.YtoekajpjfoolpaaGreatDoorClusAct
namespace Go.Proofs.YtoekajpjfoolpaaGreatDoor
open Go.RowKit Go.Maps

/-- An act on a cluster, with these nodes lost in a slot. -/
def CP.actF (c : CP) (a : ActR) (lost : List Int) : CP × Nat :=
  if a.kind = [115, 101, 116] then c.set a.n a.m else if a.kind = [111, 102, 102] then c.turn a.n 0 else if a.kind = [111, 110] then c.turn a.n 1 else if a.kind = [97, 115, 107] then c.ask a.n else c.slotF lost
theorem InvP.actF {c : CP} (h : InvP c) (a : ActR) (lost : List Int) : InvP (c.actF a lost).1 := by
  unfold CP.actF
  split
  · exact h.set _ _
  · split
    · exact h.turn _ _ (Or.inl rfl)
    · split
      · exact h.turn _ _ (Or.inr rfl)
      · split
        · exact h.ask _
        · exact h.slotF lost
theorem cSlot_any (ea : Nat → Addr) (L : CL) (c : CP) (la : Option Addr) (ln lc : Nat) (lost : List Int) (w : World) (hE : EnvC ea L w) (h : ClusAt w L c) (hI : InvP c) (hll : lost.length = ln) (hlr : RowAt w la (encInts lost)) (hlc : ln ≤ 1000) :
    Calls Tryz.prog 40 #[.pointer (some ⟨L.cb, 0, none⟩), .slice la ln lc] w fun e w' => e = .returned (.tuple #[.string ⟨c.slotT.toArray⟩, errV ea (c.slotF lost).2]) ∧ ClusAt w' L (c.slotF lost).1 ∧ Fr L.own w w' := by
  by_cases ht : c.time < 200
  · refine (cSlot_ok ea L c la ln lc lost w hE h hI ht hll hlr hlc).mono ?_
    rintro e w' ⟨rfl, h1, h2⟩
    rw [CP.slotT, CP.slotF, if_pos ht, if_pos ht]
    exact ⟨by rw [errV_zero], h1, h2⟩
  · refine (cSlot_full ea L c la ln lc w ((hE _ (Fr.refl _ _)).1.sub (by simp)) h (by omega)).mono ?_
    rintro e w' ⟨rfl, h1, h2⟩
    rw [CP.slotT, CP.slotF, if_neg ht, if_neg ht]
    exact ⟨rfl, h1, Fr.of h2⟩
theorem EnvC.fr {ea : Nat → Addr} {L : CL} {w w' : World} (h : EnvC ea L w) (hf : Fr L.own w w') : EnvC ea L w' := fun W hW => h W (hf.trans hW)

end Go.Proofs.YtoekajpjfoolpaaGreatDoor
