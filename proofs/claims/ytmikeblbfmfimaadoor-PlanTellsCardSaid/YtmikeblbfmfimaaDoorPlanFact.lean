/- The closed fact of plans. -/
import Derived.Test.YtmikeblbfmfimaaDoorPlan2
import Derived.Test.YtmikeblbfmfimaaDoorAppend
namespace Go.Proofs.YtmikeblbfmfimaaDoor
open Go.RowKit

theorem pl21_right : (rightF [2, 1] 3).1 = 0 := by decide

theorem pl21_no : ∀ j, j < 1 → ¬ whoV [2, 1] (3 + j) = 2 := by decide

set_option maxHeartbeats 400000 in
theorem planned_any (ea : Nat → Addr) (w : World) (hg : Glob w ea [5, 7, 4, 2]) :
    Calls Tryd.prog 21 #[] w fun e w' => e = .returned (.bool true) ∧ Below w.heap.size w w' := by
  have hb0 : Below w.heap.size w (w.alloc (.cells #[.int .i64 2, .int .i64 1] 3)) := (Below.refl _ _).alloc (Nat.le_refl _) _
  have C1 := Lib.hid (who_ok ea (some ⟨w.heap.size, 0, none⟩) 2 2 [2, 1] 3 _ (hg.below hb0) rfl (RowAt.new_at w (encInts [2, 1]) 3 _ rfl) pl21_right)
  have C2 := Lib.hid (fun (W : World) (hb : Below w.heap.size w W) => next_ok ea (some ⟨W.heap.size, 0, none⟩) 2 2 [2, 1] 2 3 1 _ ((hg.below hb).below ((Below.refl _ _).alloc (Nat.le_refl _) _)) rfl (RowAt.new_at W (encInts [2, 1]) 3 _ rfl) pl21_right (by omega) rfl pl21_no)
  have HB := Lib.hid hb0
  clear hb0
  go_enter Tryd.func21, Tryd.ntmps21
  go_wp2_with fail
  refine C1.out.mono ?_
  rintro e w1 ⟨rfl, hb1⟩
  have hw1 : Below w.heap.size w w1 := HB.out.trans (hb1.mono (by simp))
  have HW := Lib.hid hw1
  clear hw1 hb1
  rw [show whoV [2, 1] 3 = 1 from rfl]
  go_wp2_with fail
  refine (C2.out _ HW.out).mono ?_
  rintro e w2 ⟨rfl, hb2⟩
  have hw2 : Below w.heap.size w w2 := HW.out.trans (((Below.refl _ _).alloc (HW.out.size) _).trans (hb2.mono (by have := HW.out.size; simp; omega)))
  clear hb2
  go_wp2
  go_ret
  exact ⟨rfl, hw2⟩
end Go.Proofs.YtmikeblbfmfimaaDoor
