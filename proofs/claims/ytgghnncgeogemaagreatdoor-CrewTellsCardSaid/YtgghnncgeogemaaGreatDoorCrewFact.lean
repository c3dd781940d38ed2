/- The closed fact of crews. -/
import Derived.Test.YtgghnncgeogemaaGreatDoorCrewPlain
namespace Go.Proofs.YtgghnncgeogemaaGreatDoor
open Go.RowKit

theorem cf_list : listTo 5 16 = [1, 3] := by decide
theorem cf_text : textF 5 = [49, 44, 51] := by
  have h1 : Lib.itoa 1 = [49] := by rw [show (1 : Int) = ((1 : Nat) : Int) from rfl, Lib.itoa_nonneg, decDigits_small (by omega)]; rfl
  have h3 : Lib.itoa 3 = [51] := by rw [show (3 : Int) = ((3 : Nat) : Int) from rfl, Lib.itoa_nonneg, decDigits_small (by omega)]; rfl
  rw [textF, if_pos (by decide), if_neg (by decide), cf_list, List.map_cons, List.map_cons, List.map_nil, h1, h3]; rfl
theorem cf_read : readF [49, 44, 51] = some 5 := by rw [← cf_text]; exact read_text 5 (by omega)
theorem cf_of : crewOf [3, 1, 3] = 5 := by decide
theorem cf_many : manyF 5 = 2 := by decide
theorem cf_has : hasB 5 3 = true := by decide

set_option maxRecDepth 100000 in
set_option maxHeartbeats 800000 in
theorem crewed_any (ea : Nat → Addr) (w : World) (hg : Glob w ea [1, 2, 4]) (hT : TxtEnv w) :
    Calls Tryz.prog 5 #[] w fun e w' => e = .returned (.bool true) ∧ Below w.heap.size w w' := by
  have hb0 : Below w.heap.size w (w.alloc (.cells (encInts [3, 1, 3]).toArray 3)) := (Below.refl _ _).alloc (Nat.le_refl _) _
  have K1 := Lib.hid (of_ok (some ⟨w.heap.size, 0, none⟩) 3 3 [3, 1, 3] _ rfl (RowAt.new_at w (encInts [3, 1, 3]) 3 _ rfl) (by omega) (by decide))
  have K2 := Lib.hid (fun (W : World) (h : Below w.heap.size w W) => read_any ea [49, 44, 51] W (by decide) ((hg.below h).sub (by simp)) (hT.below h))
  have K3 := Lib.hid (fun (W : World) (h : Below w.heap.size w W) => text_any ea 5 W ((hg.below h).sub (by simp)))
  have K4 := Lib.hid (fun (W : World) (h : Below w.heap.size w W) => many_any ea 5 W ((hg.below h).sub (by simp)))
  have K5 := Lib.hid (fun (W : World) (h : Below w.heap.size w W) => has_any ea 5 3 W ((hg.below h).sub (by simp)))
  rw [cf_of] at K1
  rw [cf_read] at K2
  rw [cf_text] at K3
  rw [cf_many] at K4
  rw [cf_has] at K5
  simp only [readV, Int.cast_ofNat_Int] at K1 K2 K3 K4 K5
  clear hg hT
  go_enter Tryz.func5, Tryz.ntmps5
  go_wp2_with fail
  refine K1.out.mono ?_
  rintro e w1 ⟨rfl, rfl⟩
  go_wp2_with fail
  refine (K2.out _ hb0).mono ?_
  rintro e w2 ⟨rfl, hb2⟩
  have hv2 := hb0.trans (hb2.mono hb0.size)
  go_wp2_with fail
  refine (K3.out _ hv2).mono ?_
  rintro e w3 ⟨rfl, hb3⟩
  have hv3 := hv2.trans (hb3.mono hv2.size)
  go_wp2_with fail
  refine (K4.out _ hv3).mono ?_
  rintro e w4 ⟨rfl, rfl⟩
  go_wp2_with fail
  refine (K5.out _ hv3).mono ?_
  rintro e w5 ⟨rfl, rfl⟩
  go_wp2
  go_ret
  exact ⟨rfl, hv3⟩
end Go.Proofs.YtgghnncgeogemaaGreatDoor
