/- agreed, of the laws. -/
import Derived.Test.YtkjmgfpbngiipaaGreatDoorClusTell
import Derived.Test.YtkjmgfpbngiipaaGreatDoorClusIter
import Derived.Test.YtkjmgfpbngiipaaGreatDoorClusBack
import Derived.Test.YtkjmgfpbngiipaaGreatDoorRefCrew
import Derived.Deep.RegionHeld3
namespace Go.Proofs.YtkjmgfpbngiipaaGreatDoor
open Go.RowKit Go.Maps

theorem run_view_neq (W : World) (a b c : Int) : (binOp .neq 38 (.agg #[.int .i64 a, .int .i64 b, .int .i64 c]) (.agg #[.int .i64 a, .int .i64 b, .int .i64 c])).run Tryz.prog W = .ok (.bool false) W := by
  have h1 : (a == a) = true := by simp
  have h2 : (b == b) = true := by simp
  have h3 : (c == c) = true := by simp
  go_simp
/-- Who is active, as a list. -/
theorem mem_crew {c : CP} (hI : InvP c) {i : Int} (h : i ∈ listTo (c.crewN : Nat) 16) : ∃ x, c.f i = some x ∧ x.st = 2 := by
  have hn := (planF_ok hI.plan).2.2.2
  rw [CP.crewN, mem_nodesOf (fun n hm => hn n (List.mem_filter.1 hm).1)] at h
  have h2 := (List.mem_filter.1 h).2
  cases hf : c.f i with
  | none => rw [hf] at h2; simp [actB] at h2
  | some x => rw [hf] at h2; exact ⟨x, rfl, by simpa [actB] using h2⟩
theorem node_wfO {n : Int} (h : nodeB n = true) : (Lit.int .i64 n).wf = true := by
  simp only [nodeB, decide_eq_true_eq] at h
  have h1 : IntKind.i64.min = -9223372036854775808 := by decide +kernel
  have h2 : IntKind.i64.max = 9223372036854775807 := by decide +kernel
  simp only [Lit.wf, Bool.and_eq_true, decide_eq_true_eq, h1, h2]
  omega
/-- The view and the history that all who are active have. -/
theorem one_view {c : CP} (hI : InvP c) (hA : Agree c.f) : ∃ (M D : Int) (HH : List Ent), HH.length = c.time ∧ ∀ i ∈ listTo (c.crewN : Nat) 16, (Lit.int .i64 i).wf = true ∧ ∃ x, c.on i = (x, 0) ∧ x.m = M ∧ x.d = D ∧ x.s = c.time ∧ x.h = HH := by
  by_cases he : ∃ i, i ∈ listTo (c.crewN : Nat) 16
  · obtain ⟨i, hi⟩ := he
    obtain ⟨x, hx, hxa⟩ := mem_crew hI hi
    have hN := (hI.node i x hx).on hxa
    refine ⟨x.m, x.d, x.h, hN.2.2.2.2.1, fun j hj => ?_⟩
    obtain ⟨y, hy, hya⟩ := mem_crew hI hj
    have hNy := hI.node j y hy
    obtain ⟨e1, e2, e3, e4⟩ := hA j i y x hy hx hya hxa
    exact ⟨node_wfO hNy.node, y, by rw [CP.on, hy]; simp only [hya, if_true], e1, e2, (hNy.on hya).2.2.2.1, e4⟩
  · exact ⟨0, 0, List.replicate c.time ⟨0, 0, false, 0⟩, by simp, fun i hi => absurd ⟨i, hi⟩ he⟩

theorem cTime_cell (cb : Nat) (t : Int) (w : World) (h : w.cell? ⟨cb, 1, none⟩ = some (.int .i64 t)) :
    Calls Tryz.prog 15 #[.pointer (some ⟨cb, 0, none⟩)] w fun e w' => e = .returned (.int .i64 t) ∧ w = w' := by
  go_enter Tryz.func15, Tryz.ntmps15
  go_wp2
  go_ret
  exact ⟨rfl, rfl⟩
end Go.Proofs.YtkjmgfpbngiipaaGreatDoor
