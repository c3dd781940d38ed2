/- The closed fact of what is missing. -/
import Derived.Test.YtmikeblbfmfimaaDoorJoin
namespace Go.Proofs.YtmikeblbfmfimaaDoor
open Go.RowKit

def mi2 : List Ent := [⟨0, 1, false, 0⟩, ⟨1, 2, false, 0⟩]
theorem mi2_chk : (chk mi2).1 = 0 := by decide
theorem mi1_chk : (chk (mi2.take 1)).1 = 0 := by decide
theorem mi_since : sinceL mi2 1 5 = [⟨1, 2, false, 0⟩] := by decide
theorem mi_join : mi2.take 1 ++ [⟨1, 2, false, 0⟩] = mi2 := by decide
theorem mi_agree : agreeN mi2 (mi2.take 1) = 1 := by decide

set_option maxRecDepth 100000 in
set_option maxHeartbeats 800000 in
theorem missed_any (ea : Nat → Addr) (w : World) (hg : Glob w ea [7, 10, 4, 2, 3]) :
    Calls Tryd.prog 40 #[] w fun e w' => e = .returned (.bool true) ∧ Below w.heap.size w w' := by
  have hr : RowAt (w.alloc (.cells (encEnts mi2).toArray 76)) (some ⟨w.heap.size, 0, none⟩) (encEnts mi2) := RowAt.new_at w _ _ _ rfl
  have hb0 : Below w.heap.size w (w.alloc (.cells (encEnts mi2).toArray 76)) := (Below.refl _ _).alloc (Nat.le_refl _) _
  have C1 := Lib.hid (since_ok ea (some ⟨w.heap.size, 0, none⟩) 2 2 mi2 1 5 _ (hg.below hb0) rfl hr (by omega) (by omega) mi2_chk (by omega) (by omega))
  have HR := Lib.hid hr
  have HB := Lib.hid hb0
  clear hr hb0
  go_enter Tryd.func40, Tryd.ntmps40
  go_wp2_with fail
  refine C1.out.mono ?_
  rintro e w1 ⟨a', m, cap', rfl, hra, hm, hca, hb1⟩
  rw [mi_since] at hra hm
  obtain rfl : m = 1 := hm
  have hr1 := HR.out.below hb1
  have hw1 : Below w.heap.size w w1 := HB.out.trans (hb1.mono (by simp))
  clear hb1
  go_wp2_with fail
  refine (join_ok ea (some ⟨w.heap.size, 0, none⟩) a' 1 2 1 cap' (mi2.take 1) _ _ (hg.below hw1) rfl (by rw [encEnts_take]; exact hr1.take _) rfl hra (by omega) (by omega) mi1_chk (by rw [mi_join]; exact mi2_chk)).mono ?_
  rintro e w2 ⟨a3, cap3, rfl, hr3, hc3, hb2⟩
  rw [mi_join] at hr3
  have hr2 := hr1.below hb2
  have hw2 := hw1.trans (hb2.mono hw1.size)
  clear hb2
  go_wp2_with fail
  refine (sameEnts_any _ _ _ _ _ _ mi2 mi2 _ rfl hr3 rfl hr2 (by decide)).mono ?_
  rintro e w3 ⟨rfl, hb3⟩
  have hr4 := hr2.below hb3
  have hw3 := hw2.trans (hb3.mono hw2.size)
  clear hb3
  rw [decide_eq_true rfl]
  go_wp2_with fail
  refine (agree_any _ _ _ _ _ _ mi2 (mi2.take 1) _ rfl hr4 rfl (by rw [encEnts_take]; exact hr4.take _) (by decide)).mono ?_
  rintro e w4 ⟨rfl, hb4⟩
  rw [mi_agree]
  go_wp2
  go_ret
  exact ⟨rfl, hw3.trans (hb4.mono hw3.size)⟩
end Go.Proofs.YtmikeblbfmfimaaDoor
