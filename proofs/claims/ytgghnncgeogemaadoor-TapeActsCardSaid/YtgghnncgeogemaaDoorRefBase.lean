/- the reference's Bare, Fine, IsNode; what abides of a new block of two cells. -/
import Derived.Test.YtgghnncgeogemaaDoorLib
import Derived.RegionTactic
namespace Go.Proofs.YtgghnncgeogemaaDoor
open Go.RowKit

/-- A block of one's own of two cells, behind a call that leaves what was there. -/
theorem own2 {w w1 : World} {x y : Value} {t : TypeId} (hb : Below (w.alloc (.cells #[x, y] t)).heap.size (w.alloc (.cells #[x, y] t)) w1) :
    w1.cell? ⟨w.heap.size, 0, none⟩ = some x ∧ w1.cell? ⟨w.heap.size, 1, none⟩ = some y ∧ w1.frozen? ⟨w.heap.size, 0, none⟩ = false ∧ w1.frozen? ⟨w.heap.size, 1, none⟩ = false ∧ w.heap.size < w1.heap.size ∧ Below w.heap.size w w1 :=
  ⟨(hb.cell (p := ⟨w.heap.size, 0, none⟩) (by simp)).trans (by simp), (hb.cell (p := ⟨w.heap.size, 1, none⟩) (by simp)).trans (by simp),
    (hb.frozen (p := ⟨w.heap.size, 0, none⟩) (by simp)).trans (by simp), (hb.frozen (p := ⟨w.heap.size, 1, none⟩) (by simp)).trans (by simp),
    by have := hb.size; simp at this; omega, ((Below.refl _ _).alloc (Nat.le_refl _) _).trans (hb.mono (by simp))⟩

theorem onto {w W w' : World} (h : Below w.heap.size w W) (h2 : Below W.heap.size W w') : Below w.heap.size w w' := h.trans (h2.mono h.size)

/-- Behind a call that was made with one block more. -/
theorem past {w w1 : World} {o : Obj} (hb : Below (w.alloc o).heap.size (w.alloc o) w1) : Below w.heap.size w w1 := ((Below.refl _ _).alloc (Nat.le_refl _) _).trans (hb.mono (by simp))

/-- The same of whatever block of two cells. -/
theorem keep2 {w w1 : World} {b : Nat} {x y : Value} (hb : Below w.heap.size w w1) (hlt : b < w.heap.size) (c0 : w.cell? ⟨b, 0, none⟩ = some x) (c1 : w.cell? ⟨b, 1, none⟩ = some y)
    (f0 : w.frozen? ⟨b, 0, none⟩ = false) (f1 : w.frozen? ⟨b, 1, none⟩ = false) :
    w1.cell? ⟨b, 0, none⟩ = some x ∧ w1.cell? ⟨b, 1, none⟩ = some y ∧ w1.frozen? ⟨b, 0, none⟩ = false ∧ w1.frozen? ⟨b, 1, none⟩ = false ∧ b < w1.heap.size :=
  ⟨(hb.cell (p := ⟨b, 0, none⟩) hlt).trans c0, (hb.cell (p := ⟨b, 1, none⟩) hlt).trans c1, (hb.frozen (p := ⟨b, 0, none⟩) hlt).trans f0, (hb.frozen (p := ⟨b, 1, none⟩) hlt).trans f1, Nat.lt_of_lt_of_le hlt hb.size⟩

/-- A struct of two cells that was stored, with a block made last, and without. -/
theorem res2 {w1 : World} {b : Nat} {x0 y0 : Value} (z1 : b < w1.heap.size) (c0 : w1.cell? ⟨b, 0, none⟩ = some x0) (c1 : w1.cell? ⟨b, 1, none⟩ = some y0) :
    (∀ x y o, (((w1.setCell ⟨b, 0, none⟩ x).setCell ⟨b, 1, none⟩ y).alloc o).cell? ⟨b, 0, none⟩ = some x) ∧ (∀ x y o, (((w1.setCell ⟨b, 0, none⟩ x).setCell ⟨b, 1, none⟩ y).alloc o).cell? ⟨b, 1, none⟩ = some y) := by
  refine ⟨fun x y o => ?_, fun x y o => ?_⟩
  · rw [World.cell?_alloc_lt _ _ ⟨b, 0, none⟩ (by simpa using z1)]; go_simp
  · rw [World.cell?_alloc_lt _ _ ⟨b, 1, none⟩ (by simpa using z1)]; go_simp

/-- A struct of two cells that is stored: its world, under a name. -/
theorem set2 {w1 : World} {b : Nat} {x0 y0 x y : Value} (z1 : b < w1.heap.size) (c0 : w1.cell? ⟨b, 0, none⟩ = some x0) (c1 : w1.cell? ⟨b, 1, none⟩ = some y0) (f0 : w1.frozen? ⟨b, 0, none⟩ = false) (f1 : w1.frozen? ⟨b, 1, none⟩ = false) :
    ∃ W, W = (w1.setCell ⟨b, 0, none⟩ x).setCell ⟨b, 1, none⟩ y ∧ W.cell? ⟨b, 0, none⟩ = some x ∧ W.cell? ⟨b, 1, none⟩ = some y ∧ W.frozen? ⟨b, 0, none⟩ = false ∧ W.frozen? ⟨b, 1, none⟩ = false ∧ b < W.heap.size
      ∧ ∀ w, Below w.heap.size w w1 → w.heap.size ≤ b → Below w.heap.size w W :=
  ⟨_, rfl, by go_simp, by go_simp, by go_simp, by go_simp, by simpa using z1, fun w h hle => (h.setCell (by simpa using hle) _).setCell (by simpa using hle) _⟩

/-- An error abides where a struct of numbers is stored: it lies elsewhere. -/
theorem ErrIs.set2 {ea : Nat → Addr} {w : World} {v : Value} {code : Nat} {pl : Int} {b : Nat} {k : IntKind} {i : Int} (h : ErrIs ea w v code pl) (hc : w.cell? ⟨b, 1, none⟩ = some (.int k i)) (x y : Value) :
    ErrIs ea ((w.setCell ⟨b, 0, none⟩ x).setCell ⟨b, 1, none⟩ y) v code pl := by
  rcases h with h | ⟨h0, h1, g, rfl, hlt, h2, h3⟩
  · exact Or.inl h
  · have hne : b ≠ g := by
      rintro rfl
      rw [hc, errV_pos ea h1] at h3
      simp at h3
    refine Or.inr ⟨h0, h1, g, rfl, by simpa using hlt, ?_, ?_⟩
    · exact (World.cell?_setCell_other _ _ _ _ (fun e => hne (congrArg Addr.block e))).trans ((World.cell?_setCell_other _ _ _ _ (fun e => hne (congrArg Addr.block e))).trans h2)
    · exact (World.cell?_setCell_other _ _ _ _ (fun e => hne (congrArg Addr.block e))).trans ((World.cell?_setCell_other _ _ _ _ (fun e => hne (congrArg Addr.block e))).trans h3)

end Go.Proofs.YtgghnncgeogemaaDoor
