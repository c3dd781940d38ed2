/- slices.Clone of a history; SameEntries; Agree. -/
import Derived.Test.YtgghnncgeogemaaGreatDoorClique
import Derived.Test.YtgghnncgeogemaaGreatDoorLib
import Derived.WalkSpells
namespace Go.Proofs.YtgghnncgeogemaaGreatDoor
open Go.RowKit

theorem info_entry : (Tryz.prog.info? 53).map (fun i => (i.zero, i.size, i.bytes)) = some (some (.agg #[.int .i64 0, .int .i64 0, .bool false, .int .i64 0]), 4, 32) := by kernel_rfl

/-- Each cell of a history's row is one cell. -/
theorem encEnts_one (es : List Ent) : ∀ u ∈ encEnts es, u.oneCell' = true := by
  intro u hu
  obtain ⟨e, _, h⟩ := List.mem_flatMap.1 hu
  exact Ent.one e u h

/-- Two entries, as the program holds them against each other. -/
def entEq (e f : Ent) : Bool := decide (e = f)
theorem entEq_mk (e f : Ent) : entEq e f = (e.slot == f.slot && (e.frm == f.frm && (e.heard == f.heard && e.value == f.value))) := by
  obtain ⟨a, b, c, d⟩ := e
  obtain ⟨a', b', c', d'⟩ := f
  rw [Bool.eq_iff_iff]; simp [entEq]
set_option maxRecDepth 100000 in
theorem run_ent_eql (W : World) (e f : Ent) : (binOp .eql 53 e.v f.v).run Tryz.prog W = .ok (.bool (entEq e f)) W := by
  rw [entEq_mk]
  unfold Ent.v
  cases h1 : (e.slot == f.slot) <;> cases h2 : (e.frm == f.frm) <;> cases h3 : (e.heard == f.heard) <;> cases h4 : (e.value == f.value)
  all_goals go_simp
set_option maxRecDepth 100000 in
theorem run_ent_neq (W : World) (e f : Ent) : (binOp .neq 53 e.v f.v).run Tryz.prog W = .ok (.bool (!entEq e f)) W := by
  rw [entEq_mk]
  unfold Ent.v
  cases h1 : (e.slot == f.slot) <;> cases h2 : (e.frm == f.frm) <;> cases h3 : (e.heard == f.heard) <;> cases h4 : (e.value == f.value)
  all_goals go_simp

end Go.Proofs.YtgghnncgeogemaaGreatDoor
