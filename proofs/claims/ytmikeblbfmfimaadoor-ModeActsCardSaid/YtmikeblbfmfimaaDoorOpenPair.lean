/- A slice of pairs among the arguments. -/
import Derived.Test.YtmikeblbfmfimaaDoorOpen
import Derived.Test.YtmikeblbfmfimaaDoorModeMap
namespace Go.Proofs.YtmikeblbfmfimaaDoor
open Go.ChangeShapes Go.WideShapes Go.ChangeAt Go.WideElems Go.RowKit

section
variable {H : Type} {enc : TypeId × Value → H} {w : World} {base : Nat} {spare : Nat → Bool} {held : Bool}
theorem cellsPair : Tryd.prog.cellsOf 130 = 2 := by kernel_rfl
theorem open_pair (fuel : Nat) (cs : List Value) (x : DataW H × List MemPlace) (h : DataW.trod enc Tryd.prog w base spare held fuel 130 cs = some x) :
    ∃ e : Int × Int, cs = pairC e ∧ (Lit.int .i64 e.1).wf = true ∧ (Lit.int .i64 e.2).wf = true := by
  obtain ⟨xs, n, _, _, hl, hxs, hf⟩ := DataW.trod_struct Tryd.underlying130 h
  have hl : cs.length = 2 := hl.trans cellsPair
  have hx3 : xs.length = 2 := by rw [hxs]; rfl
  obtain ⟨c0, c1, rfl⟩ := len2 cs hl
  obtain ⟨y0, y1, rfl⟩ := len2 xs hx3
  have h0 : DataW.trod enc Tryd.prog w base spare held n 3 (([c0, c1].drop 0).take (Tryd.prog.cellsOf 3)) = some y0 := hf 0 _ rfl
  rw [cells3] at h0
  have h1 : DataW.trod enc Tryd.prog w base spare held n 3 (([c0, c1].drop 1).take (Tryd.prog.cellsOf 3)) = some y1 := hf 1 _ rfl
  rw [cells3] at h1
  obtain ⟨s, e0, _, w0⟩ := DataW.trod_int Tryd.underlying3 h0
  obtain ⟨f, e1, _, w1⟩ := DataW.trod_int Tryd.underlying3 h1
  simp only [List.drop_zero, List.drop_succ_cons, List.take_succ_cons, List.take_zero, List.cons.injEq, and_true] at e0 e1
  subst e0 e1
  exact ⟨(s, f), rfl, w0, w1⟩
theorem open_pairsL {t : TypeId} (ht : Tryd.prog.underlying t = some (.slice 130)) {fuel : Nat} {a : Option Addr} {n cap : Nat} {x : DataW H × List MemPlace} (h : DataW.trod enc Tryd.prog w base spare held fuel t [.slice a n cap] = some x) :
    ∃ l : List (Int × Int), l.length = n ∧ RowAt w a (encPairs l) ∧ n ≤ cap ∧ cap ≤ maxLen ∧ (∀ e ∈ l, (Lit.int .i64 e.1).wf = true ∧ (Lit.int .i64 e.2).wf = true) ∧ ((x.1 = .nil ∧ n = 0) ∨ ∃ elems sp, x.1 = .slice elems sp ∧ elems.length = n) :=
  open_rowsL pairC 2 pairC_len (by omega) _ 130 cellsPair open_pair ht h
end
end Go.Proofs.YtmikeblbfmfimaaDoor
