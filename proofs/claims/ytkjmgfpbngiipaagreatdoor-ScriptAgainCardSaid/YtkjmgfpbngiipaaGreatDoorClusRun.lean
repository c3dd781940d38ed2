/- acts on a cluster: what they do; play of the laws. -/
import Derived.Test.YtkjmgfpbngiipaaGreatDoorClusPlay
import Derived.Test.YtkjmgfpbngiipaaGreatDoorClusSlot
import Derived.Test.YtkjmgfpbngiipaaGreatDoorClusNew
import Derived.Test.YtkjmgfpbngiipaaGreatDoorClusAct
namespace Go.Proofs.YtkjmgfpbngiipaaGreatDoor
open Go.RowKit Go.Maps

/-- An act on a cluster, with these nodes lost in a slot. -/
def CP.actF (c : CP) (a : ActR) (lost : List Int) : CP × Nat :=
  if a.kind = [115, 101, 116] then c.set a.n a.m else if a.kind = [111, 102, 102] then c.turn a.n 0 else if a.kind = [111, 110] then c.turn a.n 1 else if a.kind = [97, 115, 107] then c.ask a.n else c.slotF lost
theorem InvP.actF {c : CP} (h : InvP c) (a : ActR) (lost : List Int) : InvP (c.actF a lost).1 := by
  unfold CP.actF
  split
  · exact h.set _ _
  · split
    · exact h.turn _ _ (Or.inl rfl)
    · split
      · exact h.turn _ _ (Or.inr rfl)
      · split
        · exact h.ask _
        · exact h.slotF lost
theorem cSlot_any (ea : Nat → Addr) (L : CL) (c : CP) (la : Option Addr) (ln lc : Nat) (lost : List Int) (w : World) (hE : EnvC ea L w) (h : ClusAt w L c) (hI : InvP c) (hll : lost.length = ln) (hlr : RowAt w la (encInts lost)) (hlc : ln ≤ 1000) :
    Calls Tryz.prog 17 #[.pointer (some ⟨L.cb, 0, none⟩), .slice la ln lc] w fun e w' => e = .returned (.tuple #[.string ⟨c.slotT.toArray⟩, errV ea (c.slotF lost).2]) ∧ ClusAt w' L (c.slotF lost).1 ∧ Fr L.own w w' := by
  by_cases ht : c.time < 200
  · refine (cSlot_ok ea L c la ln lc lost w hE h hI ht hll hlr hlc).mono ?_
    rintro e w' ⟨rfl, h1, h2⟩
    rw [CP.slotT, CP.slotF, if_pos ht, if_pos ht]
    exact ⟨by rw [errV_zero], h1, h2⟩
  · refine (cSlot_full ea L c la ln lc w ((hE _ (Fr.refl _ _)).1.sub (by simp)) h (by omega)).mono ?_
    rintro e w' ⟨rfl, h1, h2⟩
    rw [CP.slotT, CP.slotF, if_neg ht, if_neg ht]
    exact ⟨rfl, h1, Fr.of h2⟩
theorem EnvC.fr {ea : Nat → Addr} {L : CL} {w w' : World} (h : EnvC ea L w) (hf : Fr L.own w w') : EnvC ea L w' := fun W hW => h W (hf.trans hW)

set_option maxRecDepth 100000 in
set_option maxHeartbeats 1600000 in
theorem play_any (ea : Nat → Addr) (L : CL) (c : CP) (a : ActR) (w : World) (hE : EnvC ea L w) (h : ClusAt w L c) (hI : InvP c) (ha : a.Ok w) :
    Calls Tryz.prog 20 #[.pointer (some ⟨L.cb, 0, none⟩), .agg #[.string ⟨a.kind.toArray⟩, .int .i64 a.n, .int .i64 a.m, .slice a.la a.lost.length a.lc]] w fun e w' => e = .returned (errV ea (c.actF a []).2) ∧ ClusAt w' L (c.actF a []).1 ∧ Fr L.own w w' := by
  have hb : Below w.heap.size w (w.alloc (.cells #[.string ⟨a.kind.toArray⟩, .int .i64 a.n, .int .i64 a.m, .slice a.la a.lost.length a.lc] 32)) := (Below.refl _ _).alloc (Nat.le_refl _) _
  have h1 := h.below hb
  have hE1 := hE.fr (Fr.of hb)
  have hg := (hE1 _ (Fr.refl _ _)).1
  have hF : Fr L.own w (w.alloc (.cells #[.string ⟨a.kind.toArray⟩, .int .i64 a.n, .int .i64 a.m, .slice a.la a.lost.length a.lc] 32)) := Fr.of hb
  have KS := Lib.hid (cSet_any ea L c a.n a.m _ (hg.sub (by simp)) h1 ha.1)
  have KO := Lib.hid (cOff_any ea L c a.n _ (hg.sub (by simp)) h1 ha.1)
  have KN := Lib.hid (cOn_any ea L c a.n _ (hg.sub (by simp)) h1 ha.1)
  have KA := Lib.hid (cAsk_any ea L c a.n _ (hg.sub (by simp)) h1 hI.now hI.asked)
  have KL := Lib.hid (cSlot_any ea L c none 0 0 [] _ hE1 h1 hI rfl (RowAt.nil _ _) (by omega))
  have HF := Lib.hid hF
  obtain ⟨kd, n, m, la, lc, lost⟩ := a
  dsimp only at KS KO KN KA HF ⊢
  clear ha h1 hE1 hg hF hb hE h hI
  by_cases q1 : kd = [115, 101, 116]
  · subst q1
    have HA : Hid (c.actF ⟨[115, 101, 116], n, m, la, lc, lost⟩ [] = c.set n m) := by unfold Hid CP.actF; rw [if_pos rfl]
    go_enter Tryz.func20, Tryz.ntmps20
    go_wp2_with fail
    refine KS.out.mono ?_
    rintro e w1 ⟨rfl, r1, r2⟩
    go_wp2
    go_ret
    rw [HA.out]
    exact ⟨rfl, r1, HF.out.trans r2⟩
  · have g1 : (kd == [115, 101, 116]) = false := by simpa using q1
    by_cases q2 : kd = [111, 102, 102]
    · subst q2
      have HA : Hid (c.actF ⟨[111, 102, 102], n, m, la, lc, lost⟩ [] = c.turn n 0) := by unfold Hid CP.actF; rw [if_neg q1, if_pos rfl]
      go_enter Tryz.func20, Tryz.ntmps20
      go_wp2_with fail
      refine KO.out.mono ?_
      rintro e w1 ⟨rfl, r1, r2⟩
      go_wp2
      go_ret
      rw [HA.out]
      exact ⟨rfl, r1, HF.out.trans r2⟩
    · have g2 : (kd == [111, 102, 102]) = false := by simpa using q2
      by_cases q3 : kd = [111, 110]
      · subst q3
        have HA : Hid (c.actF ⟨[111, 110], n, m, la, lc, lost⟩ [] = c.turn n 1) := by unfold Hid CP.actF; rw [if_neg q1, if_neg q2, if_pos rfl]
        go_enter Tryz.func20, Tryz.ntmps20
        go_wp2_with fail
        refine KN.out.mono ?_
        rintro e w1 ⟨rfl, r1, r2⟩
        go_wp2
        go_ret
        rw [HA.out]
        exact ⟨rfl, r1, HF.out.trans r2⟩
      · have g3 : (kd == [111, 110]) = false := by simpa using q3
        by_cases q4 : kd = [97, 115, 107]
        · subst q4
          have HA : Hid (c.actF ⟨[97, 115, 107], n, m, la, lc, lost⟩ [] = c.ask n) := by unfold Hid CP.actF; rw [if_neg q1, if_neg q2, if_neg q3, if_pos rfl]
          go_enter Tryz.func20, Tryz.ntmps20
          go_wp2_with fail
          refine KA.out.mono ?_
          rintro e w1 ⟨rfl, r1, r2⟩
          go_wp2
          go_ret
          rw [HA.out]
          exact ⟨rfl, r1, HF.out.trans r2⟩
        · have g4 : (kd == [97, 115, 107]) = false := by simpa using q4
          have HA : Hid (c.actF ⟨kd, n, m, la, lc, lost⟩ [] = c.slotF []) := by unfold Hid CP.actF; rw [if_neg q1, if_neg q2, if_neg q3, if_neg q4]
          clear q1 q2 q3 q4
          go_enter Tryz.func20, Tryz.ntmps20
          go_wp2_with fail
          refine KL.out.mono ?_
          rintro e w1 ⟨rfl, r1, r2⟩
          go_wp2
          go_ret
          rw [HA.out]
          exact ⟨rfl, r1, HF.out.trans r2⟩
end Go.Proofs.YtkjmgfpbngiipaaGreatDoor
