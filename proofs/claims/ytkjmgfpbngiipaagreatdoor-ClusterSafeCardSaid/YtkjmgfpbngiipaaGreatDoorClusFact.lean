/- clusters: small facts of their acts. -/
import Derived.Test.YtkjmgfpbngiipaaGreatDoorClusRun
import Derived.Test.YtkjmgfpbngiipaaGreatDoorClusOne
namespace Go.Proofs.YtkjmgfpbngiipaaGreatDoor
open Go.RowKit Go.Maps

theorem int_wfB {n : Int} (h : -9223372036854775808 ≤ n ∧ n ≤ 9223372036854775807) : (Lit.int .i64 n).wf = true := by
  have h1 : IntKind.i64.min = -9223372036854775808 := by decide +kernel
  have h2 : IntKind.i64.max = 9223372036854775807 := by decide +kernel
  simp only [Lit.wf, Bool.and_eq_true, decide_eq_true_eq, h1, h2]
  exact h
theorem on_yes {c : CP} {n : Int} (h : (c.turn n 1).2 = 0) : ∃ x, (c.turn n 1).1.f n = some x ∧ x.st = 1 := by
  unfold CP.turn at h ⊢
  cases hf : c.f n with
  | none => rw [hf] at h; simp at h
  | some x =>
    rw [hf] at h
    dsimp only at h ⊢
    split at h
    · simp at h
    · rename_i hn
      rw [if_neg hn]
      exact ⟨⟨1, x.val, 0, 0, 0, []⟩, by simp, rfl⟩
theorem actF_plan (c : CP) (a : ActR) (lost : List Int) : (c.actF a lost).1.plan = c.plan := by
  have ht : ∀ n t, (c.turn n t).1.plan = c.plan := fun n t => by unfold CP.turn; split <;> (try split) <;> rfl
  have hs : ∀ n v, (c.set n v).1.plan = c.plan := fun n v => by unfold CP.set; split <;> (try split) <;> rfl
  have hk : ∀ t, (c.ask t).1.plan = c.plan := fun t => by unfold CP.ask; split <;> (try split) <;> rfl
  unfold CP.actF
  split
  · exact hs _ _
  · split
    · exact ht _ _
    · split
      · exact ht _ _
      · split
        · exact hk _
        · unfold CP.slotF
          split
          · exact CP.slot_plan.1
          · rfl
theorem crew_some {c : CP} (h : c.crewN ≠ 0) : ∃ z, Act c.f z := by
  by_cases he : ∃ z, Act c.f z
  · exact he
  · exfalso
    apply h
    have e : (c.plan.filter fun i => actB (c.f i)) = [] := List.filter_eq_nil_iff.2 fun i _ ha => he ⟨i, by
      cases hf : c.f i with
      | none => rw [hf] at ha; simp [actB] at ha
      | some x => rw [hf] at ha; exact ⟨x, hf, by simpa [actB] using ha⟩⟩
    rw [CP.crewN, e]; rfl
theorem crew_none {c : CP} (h : ∀ i, ¬ Act c.f i) : c.crewN = 0 := by
  by_cases he : c.crewN = 0
  · exact he
  · obtain ⟨z, hz⟩ := crew_some he; exact absurd hz (h z)
theorem stT_act {c : CP} {n : Int} (h : Act c.f n) : c.stT n = [97, 99, 116, 105, 118, 101] := by
  obtain ⟨x, hx, ha⟩ := h
  rw [CP.stT, hx]; simp only [ha]; rfl
/-- A text that tells that a node is active. -/
theorem stT_eq {c : CP} (hI : InvP c) (n : Int) : (c.stT n == [97, 99, 116, 105, 118, 101]) = actB (c.f n) := by
  unfold CP.stT actB
  cases hf : c.f n with
  | none => rfl
  | some x =>
    dsimp only
    rcases (hI.node n x hf).st with h | h | h <;> rw [h] <;> decide
theorem FromB.put {plan : List Int} {f : Int → Option NP} (h : FromB plan f) {n : Int} {x y : NP} (hx : f n = some x) (hy : y.h = [] ∨ (y.st = x.st ∧ y.h = x.h)) : FromB plan (fun i => if i = n then some y else f i) := by
  intro i z hz hza
  dsimp only at hz
  split at hz
  · obtain rfl := Option.some.inj hz
    rcases hy with e | ⟨e1, e2⟩
    · rw [e]; intro j hj; simp at hj
    · rw [e2]; exact h n x hx (by rw [← e1]; exact hza)
  · exact h i z hz hza
theorem FromB.actF {c : CP} (hI : InvP c) (h : FromB c.plan c.f) (a : ActR) (lost : List Int) : FromB (c.actF a lost).1.plan (c.actF a lost).1.f := by
  rw [actF_plan]
  have ht : ∀ n t, FromB c.plan (c.turn n t).1.f := fun n t => by
    unfold CP.turn
    split
    · exact h
    · rename_i x hx
      split
      · exact h
      · exact h.put hx (Or.inl rfl)
  have hs : ∀ n v, FromB c.plan (c.set n v).1.f := fun n v => by
    unfold CP.set
    split
    · exact h
    · rename_i x hx
      split
      · exact h.put hx (Or.inr ⟨rfl, rfl⟩)
      · exact h
  have hk : ∀ t, FromB c.plan (c.ask t).1.f := fun t => by unfold CP.ask; split <;> (try split) <;> exact h
  unfold CP.actF
  split
  · exact hs _ _
  · split
    · exact ht _ _
    · split
      · exact ht _ _
      · split
        · exact hk _
        · unfold CP.slotF
          split
          · rename_i h2; exact h.slot hI h2 _ lost
          · exact h
/-- Of each who is active: what its view and its history are. -/
theorem safe_one {c : CP} (hI : InvP c) (hF : FromB c.plan c.f) : ∀ i ∈ listTo (c.crewN : Nat) 16, (Lit.int .i64 i).wf = true ∧ ∃ x, c.on i = (x, 0) ∧ x.s = c.time ∧ x.h.length = c.time ∧ ∀ j, (hj : j < x.h.length) → x.h[j].slot = j ∧ x.h[j].frm = whoV c.plan j := by
  intro i hi
  obtain ⟨x, hx, hxa⟩ := mem_crew hI hi
  have hN := hI.node i x hx
  obtain ⟨h1, h2, h3, h4, h5, h6⟩ := hN.on hxa
  exact ⟨node_wfO hN.node, x, by rw [CP.on, hx]; simp only [hxa, if_true], h4, h5, fun j hj => ⟨(chk_get h6 j hj).1, hF i x hx hxa j hj⟩⟩
end Go.Proofs.YtkjmgfpbngiipaaGreatDoor
