/- frame.Make. -/
import Derived.Test.YtbfocagicagehaaDoorFrame
import Derived.Test.YtbfocagicagehaaDoorCrewPlain
import Derived.Deep.RegionHeld3
import Derived.RegionTactic
namespace Go.Proofs.YtbfocagicagehaaDoor
open Go.RowKit

/-- The words of a frame, its sum aside. -/
def frameW (f : Frm) : List (List UInt8) := [[102, 114, 97, 109, 101], Lib.itoa f.frm, textF f.mem, Lib.itoa f.mode, Lib.itoa f.slot, Lib.itoa f.value]
def frameBody (f : Frm) : List UInt8 := joinL 32 (frameW f)
/-- A frame's text. -/
def frameT (f : Frm) : List UInt8 := frameBody f ++ 32 :: Lib.itoa (sumF (frameBody f))
def makeF (f : Frm) : List UInt8 := if frameE f = 0 then frameT f else []

theorem textF_len (c : Int) : (textF c).length ≤ 352 := by
  unfold textF
  split
  · split
    · decide
    · refine Nat.le_trans (join_short ((listTo c 16).map Lib.itoa) (fun x hx => ?_)) (by have := listTo_length c 16; simp; omega)
      obtain ⟨y, hy, rfl⟩ := List.mem_map.1 hx
      have := listTo_mem c 16 (Nat.le_refl _) y hy
      exact Lib.itoa_length_le y (by omega) (by omega)
  · decide
theorem frameBody_len {f : Frm} (h : frameE f = 0) : (frameBody f).length ≤ 1000 := by
  obtain ⟨h1, h2, h3, h4, h5⟩ := frameE_zero h
  simp only [nodeB, viewB, numB, decide_eq_true_eq] at h1 h4 h5
  have l1 := Lib.itoa_length_le f.frm (by omega) (by omega)
  have l2 := textF_len f.mem
  have l3 := Lib.itoa_length_le f.mode (by omega) (by omega)
  have l4 := Lib.itoa_length_le f.slot (by omega) (by omega)
  have l5 := Lib.itoa_length_le f.value (by omega) (by omega)
  simp only [frameBody, frameW, joinL, List.length_append, List.length_cons, List.length_nil]
  omega

set_option maxRecDepth 400000 in
set_option maxHeartbeats 3200000 in
theorem make_ok (ea : Nat → Addr) (f1 f2 f3 f4 f5 : Int) (w : World) (hg : Glob w ea [2, 3, 4]) (hT : TxtEnv w) (h : frameE ⟨f1, f2, f3, f4, f5⟩ = 0) :
    Calls Tryd.prog 33 #[.agg #[.int .i64 f1, .int .i64 f2, .int .i64 f3, .int .i64 f4, .int .i64 f5]] w fun e w' => e = .returned (.tuple #[.string ⟨(frameT ⟨f1, f2, f3, f4, f5⟩).toArray⟩, .nilIface]) ∧ Below w.heap.size w w' := by
  have hb0 : Below w.heap.size w (w.alloc (.cells #[.int .i64 f1, .int .i64 f2, .int .i64 f3, .int .i64 f4, .int .i64 f5] 75)) := (Below.refl _ _).alloc (Nat.le_refl _) _
  have KC := Lib.hid (frameCheck_any ea f1 f2 f3 f4 f5 _ (hg.below hb0))
  have HG := Lib.hid (fun (W : World) (h : Below w.heap.size w W) => show Glob W ea [2] from (hg.below h).sub (by simp))
  have HT := Lib.hid (fun (W : World) (h : Below w.heap.size w W) => hT.below h)
  have hlen := frameBody_len h
  have hsm := sumF_lt (frameBody ⟨f1, f2, f3, f4, f5⟩)
  obtain ⟨h1, h2, h3, h4, h5⟩ := frameE_zero h
  simp only [nodeB, viewB, numB, decide_eq_true_eq] at h1 h4 h5
  rw [h, errV_zero] at KC
  have HFT : Hid (frameT ⟨f1, f2, f3, f4, f5⟩ = frameBody ⟨f1, f2, f3, f4, f5⟩ ++ 32 :: Lib.itoa (sumF (frameBody ⟨f1, f2, f3, f4, f5⟩))) := rfl
  have hj : Lib.join (frameW ⟨f1, f2, f3, f4, f5⟩) [32] = frameBody ⟨f1, f2, f3, f4, f5⟩ := join_joinL 32 _
  have KJ := Lib.hid (fun (W : World) => join_any (some ⟨W.heap.size, 0, none⟩) 6 6 (frameW ⟨f1, f2, f3, f4, f5⟩) [32] (W.alloc (.cells (encTexts (frameW ⟨f1, f2, f3, f4, f5⟩)).toArray 9)) rfl (RowAt.new_at W _ _ _ rfl) (Nat.le_refl _) (by rw [hj]; omega) (by omega))
  rw [hj] at KJ
  have KI := Lib.hid (fun (n : Int) (W : World) (hb : Below w.heap.size w W) (hn : -9223372036854775808 ≤ n ∧ n ≤ 9223372036854775807) => itoa_any n W (HT.out W hb) hn)
  have KT := Lib.hid (fun (W : World) (hb : Below w.heap.size w W) => text_any ea f2 W (HG.out W hb))
  have KS := Lib.hid (fun (W : World) => sum_any (frameBody ⟨f1, f2, f3, f4, f5⟩) W (by omega))
  generalize frameBody ⟨f1, f2, f3, f4, f5⟩ = body at *
  generalize sumF body = sm at *
  have n1 : -9223372036854775808 ≤ f1 ∧ f1 ≤ 9223372036854775807 := by omega
  have n3 : -9223372036854775808 ≤ f3 ∧ f3 ≤ 9223372036854775807 := by omega
  have n4 : -9223372036854775808 ≤ f4 ∧ f4 ≤ 9223372036854775807 := by omega
  have n5 : -9223372036854775808 ≤ f5 ∧ f5 ≤ 9223372036854775807 := by omega
  have N1 := Lib.hid n1
  have N3 := Lib.hid n3
  have N4 := Lib.hid n4
  have N5 := Lib.hid n5
  clear hg hT h hj h1 h2 h3 h4 h5 n1 n3 n4 n5
  go_enter Tryd.func33, Tryd.ntmps33
  go_wp2_with fail
  refine KC.out.mono ?_
  rintro e w1 ⟨rfl, hb1⟩
  have k0 : w1.drew.cell? ⟨w.heap.size, 0, none⟩ = some (.int .i64 f1) := (hb1.cell (p := ⟨w.heap.size, 0, none⟩) (by simp)).trans (by simp)
  have k1 : w1.drew.cell? ⟨w.heap.size, 1, none⟩ = some (.int .i64 f2) := (hb1.cell (p := ⟨w.heap.size, 1, none⟩) (by simp)).trans (by simp)
  have k2 : w1.drew.cell? ⟨w.heap.size, 2, none⟩ = some (.int .i64 f3) := (hb1.cell (p := ⟨w.heap.size, 2, none⟩) (by simp)).trans (by simp)
  have k3 : w1.drew.cell? ⟨w.heap.size, 3, none⟩ = some (.int .i64 f4) := (hb1.cell (p := ⟨w.heap.size, 3, none⟩) (by simp)).trans (by simp)
  have k4 : w1.drew.cell? ⟨w.heap.size, 4, none⟩ = some (.int .i64 f5) := (hb1.cell (p := ⟨w.heap.size, 4, none⟩) (by simp)).trans (by simp)
  have hz1 : w.heap.size < w1.drew.heap.size := by have := hb1.size; simp at this; exact this
  have hv1 : Below w.heap.size w w1.drew := (hb0.trans (hb1.mono (by simp))).drew
  have A1 := Lib.hid (KI.out f1 w1.drew hv1 N1.out)
  clear hb1 hb0
  go_wp2
  go_region_held3 (fun w' => w'.cell? ⟨w.heap.size, 0, none⟩ = some (.int .i64 f1) ∧ w'.cell? ⟨w.heap.size, 1, none⟩ = some (.int .i64 f2) ∧ w'.cell? ⟨w.heap.size, 2, none⟩ = some (.int .i64 f3) ∧ w'.cell? ⟨w.heap.size, 3, none⟩ = some (.int .i64 f4) ∧ w'.cell? ⟨w.heap.size, 4, none⟩ = some (.int .i64 f5)) (go_keep)
    (first
      | (go_at_call 22; (with_reducible refine A1.out.mono ?_); rintro e w2 ⟨rfl, hb2⟩; have hv2 := hv1.trans (hb2.mono hv1.size); have k0 := (hb2.cell (p := ⟨w.heap.size, 0, none⟩) hz1).trans k0; have k1 := (hb2.cell (p := ⟨w.heap.size, 1, none⟩) hz1).trans k1; have k2 := (hb2.cell (p := ⟨w.heap.size, 2, none⟩) hz1).trans k2; have k3 := (hb2.cell (p := ⟨w.heap.size, 3, none⟩) hz1).trans k3; have k4 := (hb2.cell (p := ⟨w.heap.size, 4, none⟩) hz1).trans k4; have hz2 := Nat.lt_of_lt_of_le hz1 hb2.size; have A2 := Lib.hid (KT.out w2 hv2); clear hb2)
      | (go_at_call 48; (with_reducible refine A2.out.mono ?_); rintro e w3 ⟨rfl, hb2⟩; have hv3 := hv2.trans (hb2.mono hv2.size); have k0 := (hb2.cell (p := ⟨w.heap.size, 0, none⟩) hz2).trans k0; have k1 := (hb2.cell (p := ⟨w.heap.size, 1, none⟩) hz2).trans k1; have k2 := (hb2.cell (p := ⟨w.heap.size, 2, none⟩) hz2).trans k2; have k3 := (hb2.cell (p := ⟨w.heap.size, 3, none⟩) hz2).trans k3; have k4 := (hb2.cell (p := ⟨w.heap.size, 4, none⟩) hz2).trans k4; have hz3 := Nat.lt_of_lt_of_le hz2 hb2.size; have A3 := Lib.hid (KI.out f3 w3 hv3 N3.out); clear hb2)
      | (go_at_call 22; (with_reducible refine A3.out.mono ?_); rintro e w4 ⟨rfl, hb2⟩; have hv4 := hv3.trans (hb2.mono hv3.size); have k0 := (hb2.cell (p := ⟨w.heap.size, 0, none⟩) hz3).trans k0; have k1 := (hb2.cell (p := ⟨w.heap.size, 1, none⟩) hz3).trans k1; have k2 := (hb2.cell (p := ⟨w.heap.size, 2, none⟩) hz3).trans k2; have k3 := (hb2.cell (p := ⟨w.heap.size, 3, none⟩) hz3).trans k3; have k4 := (hb2.cell (p := ⟨w.heap.size, 4, none⟩) hz3).trans k4; have hz4 := Nat.lt_of_lt_of_le hz3 hb2.size; have A4 := Lib.hid (KI.out f4 w4 hv4 N4.out); clear hb2)
      | (go_at_call 22; (with_reducible refine A4.out.mono ?_); rintro e w5 ⟨rfl, hb2⟩; have hv5 := hv4.trans (hb2.mono hv4.size); have k0 := (hb2.cell (p := ⟨w.heap.size, 0, none⟩) hz4).trans k0; have k1 := (hb2.cell (p := ⟨w.heap.size, 1, none⟩) hz4).trans k1; have k2 := (hb2.cell (p := ⟨w.heap.size, 2, none⟩) hz4).trans k2; have k3 := (hb2.cell (p := ⟨w.heap.size, 3, none⟩) hz4).trans k3; have k4 := (hb2.cell (p := ⟨w.heap.size, 4, none⟩) hz4).trans k4; have hz5 := Nat.lt_of_lt_of_le hz4 hb2.size; have A5 := Lib.hid (KI.out f5 w5 hv5 N5.out); clear hb2)
      | (go_at_call 22; (with_reducible refine A5.out.mono ?_); rintro e w6 ⟨rfl, hb2⟩; have hv6 := hv5.trans (hb2.mono hv5.size); have k0 := (hb2.cell (p := ⟨w.heap.size, 0, none⟩) hz5).trans k0; have k1 := (hb2.cell (p := ⟨w.heap.size, 1, none⟩) hz5).trans k1; have k2 := (hb2.cell (p := ⟨w.heap.size, 2, none⟩) hz5).trans k2; have k3 := (hb2.cell (p := ⟨w.heap.size, 3, none⟩) hz5).trans k3; have k4 := (hb2.cell (p := ⟨w.heap.size, 4, none⟩) hz5).trans k4; clear hb2))
  clear k0 k1 k2 k3 k4 A1 A2 A3 A4 A5
  go_wp2_with fail
  refine (KJ.out w6).mono ?_
  rintro e w7 ⟨rfl, hb7⟩
  have hv7 : Below w.heap.size w w7 := (hv6.alloc hv6.size _).trans (hb7.mono (by have := hv6.size; simp; omega))
  go_wp2_with fail
  refine (KS.out _).mono ?_
  rintro e w8 ⟨rfl, rfl⟩
  go_wp2_with fail
  refine (KI.out _ _ hv7 (by omega)).mono ?_
  rintro e w9 ⟨rfl, hb9⟩
  have hsl := Lib.itoa_length_le (sm : Int) (by omega) (by omega)
  generalize Lib.itoa (sm : Int) = si at *
  have c1 := ba_append body [32]
  have c2 := ba_append (body ++ [32]) si
  go_wp2
  go_ret2
  exact ⟨by rw [HFT.out]; simp, hv7.trans (hb9.mono hv7.size)⟩

theorem make_any (ea : Nat → Addr) (f1 f2 f3 f4 f5 : Int) (w : World) (hg : Glob w ea [2, 3, 4]) (hT : TxtEnv w) :
    Calls Tryd.prog 33 #[.agg #[.int .i64 f1, .int .i64 f2, .int .i64 f3, .int .i64 f4, .int .i64 f5]] w fun e w' => e = .returned (.tuple #[.string ⟨(makeF ⟨f1, f2, f3, f4, f5⟩).toArray⟩, errV ea (frameE ⟨f1, f2, f3, f4, f5⟩)]) ∧ Below w.heap.size w w' := by
  by_cases h : frameE ⟨f1, f2, f3, f4, f5⟩ = 0
  · rw [makeF, if_pos h, h, errV_zero]
    exact make_ok ea f1 f2 f3 f4 f5 w hg hT h
  · have hb0 : Below w.heap.size w (w.alloc (.cells #[.int .i64 f1, .int .i64 f2, .int .i64 f3, .int .i64 f4, .int .i64 f5] 75)) := (Below.refl _ _).alloc (Nat.le_refl _) _
    have KC := Lib.hid (frameCheck_any ea f1 f2 f3 f4 f5 _ (hg.below hb0))
    have HE := Lib.hid (errV_pos ea h)
    rw [HE.out] at KC
    rw [makeF, if_neg h, HE.out]
    clear hg hT h
    go_enter Tryd.func33, Tryd.ntmps33
    go_wp2_with fail
    refine KC.out.mono ?_
    rintro e w1 ⟨rfl, hb1⟩
    go_wp2
    go_ret2
    exact ⟨rfl, hb0.trans (hb1.mono (by simp))⟩
end Go.Proofs.YtbfocagicagehaaDoor
