/- A slice of acts among the arguments. -/
import Derived.Test.YtoekajpjfoolpaaGreatDoorOpen
import Derived.Test.YtoekajpjfoolpaaGreatDoorClusRun
namespace Go.Proofs.YtoekajpjfoolpaaGreatDoor
open Go.ChangeShapes Go.WideShapes Go.ChangeAt Go.WideElems Go.RowKit

section
variable {H : Type} {enc : TypeId × Value → H} {w : World} {base : Nat} {spare : Nat → Bool} {held : Bool}
theorem cellsAct : Tryz.prog.cellsOf 39 = 4 := by kernel_rfl
theorem cellsStrA : Tryz.prog.cellsOf 9 = 1 := by kernel_rfl
theorem cellsIntsA : Tryz.prog.cellsOf 22 = 1 := by kernel_rfl
theorem len4A {α : Type} : ∀ (l : List α), l.length = 4 → ∃ a b c d, l = [a, b, c, d]
  | [a, b, c, d], _ => ⟨a, b, c, d, rfl⟩
theorem open_act (fuel : Nat) (cs : List Value) (x : DataW H × List MemPlace) (h : DataW.trod enc Tryz.prog w base spare held fuel 39 cs = some x) :
    ∃ e : ActR, cs = e.cells ∧ e.Ok w := by
  obtain ⟨xs, n, _, _, hl, hxs, hf⟩ := DataW.trod_struct Tryz.underlying39 h
  have hl : cs.length = 4 := hl.trans cellsAct
  have hx4 : xs.length = 4 := by rw [hxs]; rfl
  obtain ⟨c0, c1, c2, c3, rfl⟩ := len4A cs hl
  obtain ⟨y0, y1, y2, y3, rfl⟩ := len4A xs hx4
  have h0 : DataW.trod enc Tryz.prog w base spare held n 9 (([c0, c1, c2, c3].drop 0).take (Tryz.prog.cellsOf 9)) = some y0 := hf 0 _ rfl
  rw [cellsStrA] at h0
  have h1 : DataW.trod enc Tryz.prog w base spare held n 3 (([c0, c1, c2, c3].drop 1).take (Tryz.prog.cellsOf 3)) = some y1 := hf 1 _ rfl
  rw [cells3] at h1
  have h2 : DataW.trod enc Tryz.prog w base spare held n 3 (([c0, c1, c2, c3].drop 2).take (Tryz.prog.cellsOf 3)) = some y2 := hf 2 _ rfl
  rw [cells3] at h2
  have h3 : DataW.trod enc Tryz.prog w base spare held n 22 (([c0, c1, c2, c3].drop 3).take (Tryz.prog.cellsOf 22)) = some y3 := hf 3 _ rfl
  rw [cellsIntsA] at h3
  obtain ⟨s, e0, _, ms⟩ := DataW.trod_string Tryz.underlying9 h0
  obtain ⟨f, e1, _, w1⟩ := DataW.trod_int Tryz.underlying3 h1
  obtain ⟨b, e2, _, w2⟩ := DataW.trod_int Tryz.underlying3 h2
  simp only [List.drop_zero, List.drop_succ_cons, List.take_succ_cons, List.take_zero, List.cons.injEq, and_true] at e0 e1 e2 h3
  subst e0 e1 e2
  have hsh : ∃ la n lc, c3 = .slice la n lc := by
    rcases DataW.trod_slice Tryz.underlying22 h3 with ⟨e, _⟩ | ⟨a, len, cap, _, _, _, _, e, _⟩
    · exact ⟨_, _, _, (List.cons.inj e).1⟩
    · exact ⟨_, _, _, (List.cons.inj e).1⟩
  obtain ⟨la, k, lc, rfl⟩ := hsh
  obtain ⟨lost, rfl, hr, h5, h6, _, _⟩ := open_intsL Tryz.underlying22 h3
  exact ⟨⟨s.data.toList, f, b, la, lc, lost⟩, rfl, w1, w2, hr, by dsimp only; omega, by simpa using ms⟩
theorem open_actsL {t : TypeId} (ht : Tryz.prog.underlying t = some (.slice 39)) {fuel : Nat} {a : Option Addr} {n cap : Nat} {x : DataW H × List MemPlace} (h : DataW.trod enc Tryz.prog w base spare held fuel t [.slice a n cap] = some x) :
    ∃ l : List ActR, l.length = n ∧ RowAt w a (encActs l) ∧ n ≤ cap ∧ cap ≤ maxLen ∧ (∀ e ∈ l, e.Ok w) ∧ ((x.1 = .nil ∧ n = 0) ∨ ∃ elems sp, x.1 = .slice elems sp ∧ elems.length = n) :=
  open_rowsL ActR.cells 4 ActR.len (by omega) _ 39 cellsAct open_act ht h
end
end Go.Proofs.YtoekajpjfoolpaaGreatDoor
