/- Texts, bytes, frames and views among the arguments. -/
import Derived.Test.YtgghnncgeogemaaDoorOpen
namespace Go.Proofs.YtgghnncgeogemaaDoor
open Go.ChangeShapes Go.WideShapes Go.ChangeAt Go.WideElems Go.RowKit

theorem u8_bounds {x : Int} (h : (Lit.int .u8 x).wf = true) : 0 ≤ x ∧ x ≤ 255 := by
  simp [Lit.wf, IntKind.min, IntKind.max, IntKind.signed, IntKind.bits] at h
  exact ⟨by omega, by omega⟩
section
variable {H : Type} {enc : TypeId × Value → H} {w : World} {base b0 : Nat} {spare : Nat → Bool} {held : Bool}
set_option maxRecDepth 100000 in
theorem open_text {v : Value} {d : DataW H} {ps : List MemPlace} (hval : Value.okWide Tryd.prog w .any b0 9 v) (hd : DataW.Trod enc Tryd.prog w base spare held 9 v d ps) :
    ∃ l : List UInt8, v = .string ⟨l.toArray⟩ ∧ l.length ≤ maxLen := by
  obtain ⟨s, rfl⟩ := okWide_string Tryd.underlying9 hval
  obtain ⟨fuel, hf⟩ := hd
  obtain ⟨s', h, _, hm⟩ := DataW.trod_string Tryd.underlying9 hf
  simp [Value.cells] at h
  subst h
  exact ⟨s.data.toList, rfl, by simpa using hm⟩
theorem cellsTxt : Tryd.prog.cellsOf 9 = 1 := by kernel_rfl
theorem open_txt_cells (fuel : Nat) (cs : List Value) (x : DataW H × List MemPlace) (h : DataW.trod enc Tryd.prog w base spare held fuel 9 cs = some x) : ∃ e : List UInt8, cs = [Value.string ⟨e.toArray⟩] ∧ e.length ≤ maxLen := by
  obtain ⟨s', h, _, hm⟩ := DataW.trod_string Tryd.underlying9 h
  exact ⟨s'.data.toList, h, by simpa using hm⟩
/-- A slice of texts. -/
theorem open_textsL {t : TypeId} (ht : Tryd.prog.underlying t = some (.slice 9)) {fuel : Nat} {a : Option Addr} {n cap : Nat} {x : DataW H × List MemPlace} (h : DataW.trod enc Tryd.prog w base spare held fuel t [.slice a n cap] = some x) :
    ∃ l : List (List UInt8), l.length = n ∧ RowAt w a (encTexts l) ∧ n ≤ cap ∧ cap ≤ maxLen ∧ (∀ e ∈ l, e.length ≤ maxLen) ∧ ((x.1 = .nil ∧ n = 0) ∨ ∃ elems sp, x.1 = .slice elems sp ∧ elems.length = n) := by
  obtain ⟨l, h1, h2, h3⟩ := open_rowsL (fun e : List UInt8 => [Value.string ⟨e.toArray⟩]) 1 (fun _ => rfl) (by omega) (fun e => e.length ≤ maxLen) 9 cellsTxt open_txt_cells ht h
  have e : l.flatMap (fun e : List UInt8 => [Value.string ⟨e.toArray⟩]) = encTexts l := by
    clear h1 h2 h3
    induction l with
    | nil => rfl
    | cons x r ih => rw [List.flatMap_cons, ih]; rfl
  rw [e] at h2
  exact ⟨l, h1, h2, h3⟩
end
end Go.Proofs.YtgghnncgeogemaaDoor
