/- Texts, bytes, frames and views among the arguments. -/
import Derived.Test.YtoekajpjfoolpaaGreatDoorOpen
namespace Go.Proofs.YtoekajpjfoolpaaGreatDoor
open Go.ChangeShapes Go.WideShapes Go.ChangeAt Go.WideElems Go.RowKit

theorem u8_bounds {x : Int} (h : (Lit.int .u8 x).wf = true) : 0 ≤ x ∧ x ≤ 255 := by
  simp [Lit.wf, IntKind.min, IntKind.max, IntKind.signed, IntKind.bits] at h
  exact ⟨by omega, by omega⟩
section
variable {H : Type} {enc : TypeId × Value → H} {w : World} {base b0 : Nat} {spare : Nat → Bool} {held : Bool}
set_option maxRecDepth 100000 in
theorem open_text {v : Value} {d : DataW H} {ps : List MemPlace} (hval : Value.okWide Tryz.prog w .any b0 9 v) (hd : DataW.Trod enc Tryz.prog w base spare held 9 v d ps) :
    ∃ l : List UInt8, v = .string ⟨l.toArray⟩ ∧ l.length ≤ maxLen := by
  obtain ⟨s, rfl⟩ := okWide_string Tryz.underlying9 hval
  obtain ⟨fuel, hf⟩ := hd
  obtain ⟨s', h, _, hm⟩ := DataW.trod_string Tryz.underlying9 hf
  simp [Value.cells] at h
  subst h
  exact ⟨s.data.toList, rfl, by simpa using hm⟩
theorem arr3 {α : Type} {cs : Array α} (h : cs.size = 3) : ∃ a b c, cs = #[a, b, c] := by
  obtain ⟨l⟩ := cs
  match l, h with
  | [a, b, c], _ => exact ⟨a, b, c, rfl⟩
theorem cellsView : Tryz.prog.cellsOf 84 = 3 := by kernel_rfl
theorem open_view_cells {fuel : Nat} {c0 c1 c2 : Value} {x : DataW H × List MemPlace} (h : DataW.trod enc Tryz.prog w base spare held fuel 84 [c0, c1, c2] = some x) :
    ∃ m o s : Int, c0 = .int .i64 m ∧ c1 = .int .i64 o ∧ c2 = .int .i64 s ∧ (Lit.int .i64 m).wf = true ∧ (Lit.int .i64 o).wf = true ∧ (Lit.int .i64 s).wf = true := by
  obtain ⟨xs, n, _, _, _, hxs, hf⟩ := DataW.trod_struct Tryz.underlying84 h
  have hx3 : xs.length = 3 := by rw [hxs]; rfl
  obtain ⟨y0, y1, y2, rfl⟩ := len3 xs hx3
  have h0 : DataW.trod enc Tryz.prog w base spare held n 3 (([c0, c1, c2].drop 0).take (Tryz.prog.cellsOf 3)) = some y0 := hf 0 _ rfl
  rw [cells3] at h0
  have h1 : DataW.trod enc Tryz.prog w base spare held n 3 (([c0, c1, c2].drop 1).take (Tryz.prog.cellsOf 3)) = some y1 := hf 1 _ rfl
  rw [cells3] at h1
  have h2 : DataW.trod enc Tryz.prog w base spare held n 3 (([c0, c1, c2].drop 2).take (Tryz.prog.cellsOf 3)) = some y2 := hf 2 _ rfl
  rw [cells3] at h2
  obtain ⟨m, e0, _, w0⟩ := DataW.trod_int Tryz.underlying3 h0
  obtain ⟨o, e1, _, w1⟩ := DataW.trod_int Tryz.underlying3 h1
  obtain ⟨s, e2, _, w2⟩ := DataW.trod_int Tryz.underlying3 h2
  simp only [List.drop_zero, List.drop_succ_cons, List.take_succ_cons, List.take_zero, List.cons.injEq, and_true] at e0 e1 e2
  exact ⟨m, o, s, e0, e1, e2, w0, w1, w2⟩
set_option maxRecDepth 100000 in
theorem open_view {v : Value} {d : DataW H} {ps : List MemPlace} (hval : Value.okWide Tryz.prog w .any b0 84 v) (hd : DataW.Trod enc Tryz.prog w base spare held 84 v d ps) :
    ∃ m o s : Int, v = .agg #[.int .i64 m, .int .i64 o, .int .i64 s] ∧ (Lit.int .i64 m).wf = true ∧ (Lit.int .i64 o).wf = true ∧ (Lit.int .i64 s).wf = true := by
  obtain ⟨cs, rfl, hsz⟩ := okWide_struct Tryz.underlying84 hval
  obtain ⟨c0, c1, c2, rfl⟩ := arr3 (hsz.trans cellsView)
  obtain ⟨fuel, hf⟩ := hd
  obtain ⟨m, o, s, rfl, rfl, rfl, h⟩ := open_view_cells (show DataW.trod enc Tryz.prog w base spare held fuel 84 [c0, c1, c2] = some (d, ps) from hf)
  exact ⟨m, o, s, rfl, h⟩
theorem len5 {α : Type} : ∀ (l : List α), l.length = 5 → ∃ a b c d e, l = [a, b, c, d, e]
  | [a, b, c, d, e], _ => ⟨a, b, c, d, e, rfl⟩
theorem arr5 {α : Type} {cs : Array α} (h : cs.size = 5) : ∃ a b c d e, cs = #[a, b, c, d, e] := by
  obtain ⟨l⟩ := cs
  obtain ⟨a, b, c, d, e, rfl⟩ := len5 l h
  exact ⟨a, b, c, d, e, rfl⟩
theorem cellsFrame : Tryz.prog.cellsOf 86 = 5 := by kernel_rfl
set_option maxRecDepth 100000 in
theorem open_frame {v : Value} {d : DataW H} {ps : List MemPlace} (hval : Value.okWide Tryz.prog w .any b0 86 v) (hd : DataW.Trod enc Tryz.prog w base spare held 86 v d ps) :
    ∃ f m o s x : Int, v = .agg #[.int .i64 f, .int .i64 m, .int .i64 o, .int .i64 s, .int .i64 x] ∧ (Lit.int .i64 f).wf = true ∧ (Lit.int .i64 m).wf = true ∧ (Lit.int .i64 o).wf = true ∧ (Lit.int .i64 s).wf = true ∧ (Lit.int .i64 x).wf = true := by
  obtain ⟨cs, rfl, hsz⟩ := okWide_struct Tryz.underlying86 hval
  obtain ⟨c0, c1, c2, c3, c4, rfl⟩ := arr5 (hsz.trans cellsFrame)
  obtain ⟨fuel, hf⟩ := hd
  obtain ⟨xs, n, _, _, _, hxs, hg⟩ := DataW.trod_struct Tryz.underlying86 (show DataW.trod enc Tryz.prog w base spare held fuel 86 [c0, c1, c2, c3, c4] = some (d, ps) from hf)
  have hx3 : xs.length = 3 := by rw [hxs]; rfl
  obtain ⟨y0, y1, y2, rfl⟩ := len3 xs hx3
  have h0 : DataW.trod enc Tryz.prog w base spare held n 3 (([c0, c1, c2, c3, c4].drop 0).take (Tryz.prog.cellsOf 3)) = some y0 := hg 0 _ rfl
  rw [cells3] at h0
  have h1 : DataW.trod enc Tryz.prog w base spare held n 84 (([c0, c1, c2, c3, c4].drop 1).take (Tryz.prog.cellsOf 84)) = some y1 := hg 1 _ rfl
  rw [cellsView] at h1
  have h2 : DataW.trod enc Tryz.prog w base spare held n 3 (([c0, c1, c2, c3, c4].drop 4).take (Tryz.prog.cellsOf 3)) = some y2 := hg 2 _ rfl
  rw [cells3] at h2
  obtain ⟨f, e0, _, w0⟩ := DataW.trod_int Tryz.underlying3 h0
  obtain ⟨m, o, s, rfl, rfl, rfl, w1, w2, w3⟩ := open_view_cells (show DataW.trod enc Tryz.prog w base spare held n 84 [c1, c2, c3] = some y1 from h1)
  obtain ⟨x, e2, _, w4⟩ := DataW.trod_int Tryz.underlying3 h2
  simp only [List.drop_zero, List.drop_succ_cons, List.take_succ_cons, List.take_zero, List.cons.injEq, and_true] at e0 e2
  subst e0 e2
  exact ⟨f, m, o, s, x, rfl, w0, w1, w2, w3, w4⟩
theorem cellsTxt : Tryz.prog.cellsOf 9 = 1 := by kernel_rfl
theorem open_txt_cells (fuel : Nat) (cs : List Value) (x : DataW H × List MemPlace) (h : DataW.trod enc Tryz.prog w base spare held fuel 9 cs = some x) : ∃ e : List UInt8, cs = [Value.string ⟨e.toArray⟩] ∧ e.length ≤ maxLen := by
  obtain ⟨s', h, _, hm⟩ := DataW.trod_string Tryz.underlying9 h
  exact ⟨s'.data.toList, h, by simpa using hm⟩
/-- A slice of texts. -/
theorem open_textsL {t : TypeId} (ht : Tryz.prog.underlying t = some (.slice 9)) {fuel : Nat} {a : Option Addr} {n cap : Nat} {x : DataW H × List MemPlace} (h : DataW.trod enc Tryz.prog w base spare held fuel t [.slice a n cap] = some x) :
    ∃ l : List (List UInt8), l.length = n ∧ RowAt w a (encTexts l) ∧ n ≤ cap ∧ cap ≤ maxLen ∧ (∀ e ∈ l, e.length ≤ maxLen) ∧ ((x.1 = .nil ∧ n = 0) ∨ ∃ elems sp, x.1 = .slice elems sp ∧ elems.length = n) := by
  obtain ⟨l, h1, h2, h3⟩ := open_rowsL (fun e : List UInt8 => [Value.string ⟨e.toArray⟩]) 1 (fun _ => rfl) (by omega) (fun e => e.length ≤ maxLen) 9 cellsTxt open_txt_cells ht h
  have e : l.flatMap (fun e : List UInt8 => [Value.string ⟨e.toArray⟩]) = encTexts l := by
    clear h1 h2 h3
    induction l with
    | nil => rfl
    | cons x r ih => rw [List.flatMap_cons, ih]; rfl
  rw [e] at h2
  exact ⟨l, h1, h2, h3⟩
end
end Go.Proofs.YtoekajpjfoolpaaGreatDoor
