/- The closed fact of cliques. -/
import Derived.Test.YtmikeblbfmfimaaDoorClique3
namespace Go.Proofs.YtmikeblbfmfimaaDoor
open Go.RowKit

/-- A new block's cells read as they were laid. -/
theorem RowAt.new (w : World) (cs : List Value) (t : TypeId) : RowAt (w.alloc (.cells cs.toArray t)) (some ⟨w.heap.size, 0, none⟩) cs :=
  Or.inr ⟨w.heap.size, 0, rfl, by simp, fun i v hv => by rw [World.cell?_alloc_at _ _ _ _ rfl]; simpa using hv⟩

def cl3 : List Ent := [⟨0, 1, true, 4⟩, ⟨1, 2, false, 0⟩, ⟨2, 3, true, 0⟩]
theorem cl3_chk : chk cl3 = (0, -1) := by decide
theorem cl2_chk : chk (cl3.take 2) = (0, -1) := by decide
theorem cl3_stays : staysB 3 cl3 = true := by decide
theorem cl2_stays : staysB 3 (cl3.take 2) = false := by decide

theorem cliqued_any (ea : Nat → Addr) (w : World) (hg : Glob w ea [7, 10, 4, 2, 3]) :
    Calls Tryd.prog 14 #[] w fun e w' => e = .returned (.bool true) ∧ Below w.heap.size w w' := by
  have hr : RowAt (w.alloc (.cells (encEnts cl3).toArray 76)) (some ⟨w.heap.size, 0, none⟩) (encEnts cl3) := RowAt.new w _ _
  have hb0 : Below w.heap.size w (w.alloc (.cells (encEnts cl3).toArray 76)) := (Below.refl _ _).alloc (Nat.le_refl _) _
  have c1 := stays_ok ea (some ⟨w.heap.size, 0, none⟩) 3 3 cl3 3 _ (hg.below hb0) rfl hr (by omega) (by omega) (by rw [cl3_chk]) (by omega) (by omega)
  have C1 := Lib.hid c1
  have C2 := fun (W : World) (hb : Below (w.alloc (.cells (encEnts cl3).toArray 76)).heap.size (w.alloc (.cells (encEnts cl3).toArray 76)) W) =>
    stays_ok ea (some ⟨w.heap.size, 0, none⟩) 2 3 (cl3.take 2) 3 W ((hg.below hb0).below hb) rfl (by rw [encEnts_take]; exact (hr.below hb).take _) (by omega) (by omega) (by rw [cl2_chk]) (by omega) (by omega)
  have H2 := Lib.hid C2
  clear c1 C2 hr
  have HB := Lib.hid hb0
  clear hb0
  go_enter Tryd.func14, Tryd.ntmps14
  go_wp2_with fail
  refine C1.out.mono ?_
  rintro e w1 ⟨rfl, hb1⟩
  rw [cl3_stays]
  go_wp2_with fail
  refine (H2.out _ hb1).mono ?_
  rintro e w2 ⟨rfl, hb2⟩
  rw [cl2_stays]
  go_wp2
  go_ret
  exact ⟨rfl, HB.out.trans ((hb1.trans (hb2.mono hb1.size)).mono (by simp))⟩
end Go.Proofs.YtmikeblbfmfimaaDoor
