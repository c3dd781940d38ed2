/- A slice of writes among the arguments. -/
import Derived.Test.YtgghnncgeogemaaDoorOpen
import Derived.Test.YtgghnncgeogemaaDoorTapeActs
namespace Go.Proofs.YtgghnncgeogemaaDoor
open Go.ChangeShapes Go.WideShapes Go.ChangeAt Go.WideElems Go.RowKit

section
variable {H : Type} {enc : TypeId × Value → H} {w : World} {base : Nat} {spare : Nat → Bool} {held : Bool}
theorem cellsWrite : Tryd.prog.cellsOf 43 = 3 := by kernel_rfl
theorem cellsStr : Tryd.prog.cellsOf 9 = 1 := by kernel_rfl
theorem open_wr (fuel : Nat) (cs : List Value) (x : DataW H × List MemPlace) (h : DataW.trod enc Tryd.prog w base spare held fuel 43 cs = some x) :
    ∃ e : Wr, cs = e.cells ∧ (Lit.int .i64 e.n).wf = true := by
  obtain ⟨xs, n, _, _, hl, hxs, hf⟩ := DataW.trod_struct Tryd.underlying43 h
  have hl : cs.length = 3 := hl.trans cellsWrite
  have hx3 : xs.length = 3 := by rw [hxs]; rfl
  obtain ⟨c0, c1, c2, rfl⟩ := len3 cs hl
  obtain ⟨y0, y1, y2, rfl⟩ := len3 xs hx3
  have h0 : DataW.trod enc Tryd.prog w base spare held n 9 (([c0, c1, c2].drop 0).take (Tryd.prog.cellsOf 9)) = some y0 := hf 0 _ rfl
  rw [cellsStr] at h0
  have h1 : DataW.trod enc Tryd.prog w base spare held n 9 (([c0, c1, c2].drop 1).take (Tryd.prog.cellsOf 9)) = some y1 := hf 1 _ rfl
  rw [cellsStr] at h1
  have h2 : DataW.trod enc Tryd.prog w base spare held n 3 (([c0, c1, c2].drop 2).take (Tryd.prog.cellsOf 3)) = some y2 := hf 2 _ rfl
  rw [cells3] at h2
  obtain ⟨s, e0, _⟩ := DataW.trod_string Tryd.underlying9 h0
  obtain ⟨f, e1, _⟩ := DataW.trod_string Tryd.underlying9 h1
  obtain ⟨b, e2, _, w2⟩ := DataW.trod_int Tryd.underlying3 h2
  simp only [List.drop_zero, List.drop_succ_cons, List.take_succ_cons, List.take_zero, List.cons.injEq, and_true] at e0 e1 e2
  subst e0 e1 e2
  exact ⟨⟨s.data.toList, f.data.toList, b⟩, rfl, w2⟩
theorem open_writesL {t : TypeId} (ht : Tryd.prog.underlying t = some (.slice 43)) {fuel : Nat} {a : Option Addr} {n cap : Nat} {x : DataW H × List MemPlace} (h : DataW.trod enc Tryd.prog w base spare held fuel t [.slice a n cap] = some x) :
    ∃ l : List Wr, l.length = n ∧ RowAt w a (encWr l) ∧ n ≤ cap ∧ cap ≤ maxLen ∧ (∀ e ∈ l, (Lit.int .i64 e.n).wf = true) ∧ ((x.1 = .nil ∧ n = 0) ∨ ∃ elems sp, x.1 = .slice elems sp ∧ elems.length = n) :=
  open_rowsL Wr.cells 3 Wr.len (by omega) _ 43 cellsWrite open_wr ht h
end
end Go.Proofs.YtgghnncgeogemaaDoor
