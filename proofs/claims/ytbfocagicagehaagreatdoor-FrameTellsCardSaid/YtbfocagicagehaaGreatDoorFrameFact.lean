/- The closed fact of frames. -/
import Derived.Test.YtbfocagicagehaaGreatDoorFramePlain
import Derived.Test.YtbfocagicagehaaGreatDoorRefText
import Derived.Laws.StructEq
namespace Go.Proofs.YtbfocagicagehaaGreatDoor
open Go.RowKit

theorem ff_dig {n : Nat} (h : n < 10) : Lib.itoa (n : Int) = [UInt8.ofNat (48 + n)] := by rw [Lib.itoa_nonneg, decDigits_small h]
theorem ff_body : frameBody ⟨1, 3, 1, 5, -7⟩ = [102, 114, 97, 109, 101, 32, 49, 32, 49, 44, 50, 32, 49, 32, 53, 32, 45, 55] := by
  have h1 : Lib.itoa 1 = [49] := ff_dig (n := 1) (by omega)
  have h2 : Lib.itoa 2 = [50] := ff_dig (n := 2) (by omega)
  have h5 : Lib.itoa 5 = [53] := ff_dig (n := 5) (by omega)
  have h7 : Lib.itoa (-7) = [45, 55] := by rw [show (-7 : Int) = -((7 : Nat) : Int) from rfl, Lib.itoa_neg 7 (by omega), decDigits_small (by omega)]; rfl
  have ht : textF 3 = [49, 44, 50] := by
    rw [textF, if_pos (by decide), if_neg (by decide), show listTo 3 16 = [1, 2] by decide, List.map_cons, List.map_cons, List.map_nil, h1, h2]; rfl
  rw [frameBody, frameW]
  simp only [h1, h5, h7, ht]
  rfl
theorem ff_E : frameE ⟨1, 3, 1, 5, -7⟩ = 0 := by decide
theorem ff_sumA : sumF [97] = 355 := by decide

set_option maxRecDepth 100000 in
set_option maxHeartbeats 1600000 in
theorem framed_any (ea : Nat → Addr) (w : World) (hg : Glob w ea [1, 2, 3, 4, 8]) (hT : TxtEnv w) :
    Calls Tryz.prog 44 #[] w fun e w' => e = .returned (.bool true) ∧ Below w.heap.size w w' := by
  have hmk := make_read ff_E
  have hft : frameT ⟨1, 3, 1, 5, -7⟩ = [102, 114, 97, 109, 101, 32, 49, 32, 49, 44, 50, 32, 49, 32, 53, 32, 45, 55, 32] ++ Lib.itoa ((sumF (frameBody ⟨1, 3, 1, 5, -7⟩) : Nat) : Int) := by rw [frameT, ff_body]; rfl
  have hsm := sumF_lt (frameBody ⟨1, 3, 1, 5, -7⟩)
  have hlen := frameT_short ff_E
  rw [ff_body] at hft hsm
  have K1 := Lib.hid (fun (W : World) (h : Below w.heap.size w W) => make_any ea 1 3 1 5 (-7) W ((hg.below h).sub (by simp)) (hT.below h))
  rw [makeF, if_pos ff_E, ff_E, errV_zero] at K1
  have K2 := Lib.hid (fun (W : World) (h : Below w.heap.size w W) => fread_any ea (frameT ⟨1, 3, 1, 5, -7⟩) W (hg.below h) (hT.below h) (by omega))
  rw [hmk] at K2
  simp only [errV_zero, Frm.arr] at K2
  have K3 := Lib.hid (fun (W : World) => sum_any [102, 114, 97, 109, 101, 32, 49, 32, 49, 44, 50, 32, 49, 32, 53, 32, 45, 55] W (by decide))
  have K4 := Lib.hid (fun (W : World) => decimal_any ((sumF [102, 114, 97, 109, 101, 32, 49, 32, 49, 44, 50, 32, 49, 32, 53, 32, 45, 55] : Nat) : Int) W (by omega))
  have K5 := Lib.hid (fun (W : World) => sum_any [97] W (by decide))
  rw [ff_sumA] at K5
  have hsl := Lib.itoa_length_le ((sumF [102, 114, 97, 109, 101, 32, 49, 32, 49, 44, 50, 32, 49, 32, 53, 32, 45, 55] : Nat) : Int) (by omega) (by omega)
  generalize sumF [102, 114, 97, 109, 101, 32, 49, 32, 49, 44, 50, 32, 49, 32, 53, 32, 45, 55] = sm at *
  generalize Lib.itoa (sm : Int) = si at *
  rw [hft] at K1 K2
  have c1 := ba_append [102, 114, 97, 109, 101, 32, 49, 32, 49, 44, 50, 32, 49, 32, 53, 32, 45, 55, 32] si
  clear hmk hft hlen hg hT
  generalize htt : [102, 114, 97, 109, 101, 32, 49, 32, 49, 44, 50, 32, 49, 32, 53, 32, 45, 55, 32] ++ si = tt at *
  clear htt
  go_enter Tryz.func44, Tryz.ntmps44
  go_wp2_with fail
  have b1 : Below w.heap.size w (w.alloc (.cells #[.int .i64 1, .int .i64 3, .int .i64 1, .int .i64 5, .int .i64 (-7)] 67)) := (Below.refl _ _).alloc (Nat.le_refl _) _
  refine (K1.out _ b1).mono ?_
  rintro e1 w1 ⟨he1, hb1⟩
  subst he1
  have b2 := b1.trans (hb1.mono b1.size)
  go_wp2_with fail
  refine (K2.out _ b2).mono ?_
  rintro e2 w2 ⟨he2, hb2⟩
  subst he2
  have b3 := b2.trans (hb2.mono b2.size)
  have b4 : Below w.heap.size w (w2.alloc (.cells #[.int .i64 1, .int .i64 3, .int .i64 1, .int .i64 5, .int .i64 (-7)] 67)) := b3.alloc b3.size _
  obtain ⟨k0, k1, k2, k3, k4, f0, f1, f2, f3, f4⟩ := ((((five_new w 1 3 1 5 (-7)).kept hb1).kept hb2).kept ((Below.refl w2.heap.size w2).alloc (Nat.le_refl _) (.cells #[.int .i64 1, .int .i64 3, .int .i64 1, .int .i64 5, .int .i64 (-7)] 67))).cells
  clear f0 f1 f2 f3 f4 b2 b1 b3 hb1 hb2 K1 K2
  go_wp2_with fail
  refine (K3.out _).mono ?_
  rintro e3 w3 ⟨he3, hw3⟩
  subst he3 hw3
  go_wp2_with fail
  refine (K4.out _).mono ?_
  rintro e4 w4 ⟨he4, hb4⟩
  subst he4
  have b5 := b4.trans (hb4.mono b4.size)
  clear hb4 b4 k0 k1 k2 k3 k4 K3 K4
  go_wp2_with fail
  refine (K5.out _).mono ?_
  rintro e5 w5 ⟨he5, hw5⟩
  subst he5 hw5
  go_wp2
  go_ret
  exact ⟨rfl, b5⟩
end Go.Proofs.YtbfocagicagehaaGreatDoor
