/- Rows abide where a struct of two cells is stored elsewhere. No program in sight. -/
import Derived.Test.YtmikeblbfmfimaaDoorAppend
namespace Go.Proofs.YtmikeblbfmfimaaDoor
open Go.RowKit

theorem RowAt.set2 {w : World} {a : Option Addr} {cs : List Value} {B : Nat} (h : RowAt w a cs) (hne : ∀ b off, a = some ⟨b, off, none⟩ → b ≠ B) (x y : Value) : RowAt ((w.setCell ⟨B, 0, none⟩ x).setCell ⟨B, 1, none⟩ y) a cs := by
  rcases h with h | ⟨b, off, rfl, hlt, hc⟩
  · exact Or.inl h
  · have hn := hne b off rfl
    refine Or.inr ⟨b, off, rfl, by simpa using hlt, fun i v hv => ?_⟩
    exact (World.cell?_setCell_other _ _ _ _ (fun e => hn (congrArg Addr.block e).symm)).trans ((World.cell?_setCell_other _ _ _ _ (fun e => hn (congrArg Addr.block e).symm)).trans (hc i v hv))
theorem RowAt.drewN {w : World} {a : Option Addr} {cs : List Value} (h : RowAt w a cs) (n : Nat) : RowAt (w.drewN n) a cs := h.below (below_drewN (Below.refl _ _) n)

/-- Texts abide where a struct of numbers is stored. -/
theorem RowAt.setStr {w : World} {a : Option Addr} {l : List ByteArray} {B : Nat} {k k' : IntKind} {i i' : Int} (h : RowAt w a (l.map Value.string)) (hc : w.cell? ⟨B, 0, none⟩ = some (.int k i)) (hc1 : w.cell? ⟨B, 1, none⟩ = some (.int k' i')) (hN : ∀ o, 2 ≤ o → w.cell? ⟨B, o, none⟩ = none) (x y : Value) :
    RowAt ((w.setCell ⟨B, 0, none⟩ x).setCell ⟨B, 1, none⟩ y) a (l.map Value.string) := by
  cases l with
  | nil => exact Or.inl rfl
  | cons e r =>
    refine h.set2 (fun b off ea => ?_) x y
    subst ea
    have c0 := h.cell (i := 0) (v := .string e) rfl
    rintro rfl
    rw [Nat.add_zero] at c0
    match off with
    | 0 => rw [hc] at c0; cases c0
    | 1 => rw [hc1] at c0; cases c0
    | o + 2 => rw [hN _ (by omega)] at c0; cases c0
end Go.Proofs.YtmikeblbfmfimaaDoor
