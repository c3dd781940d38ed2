/- FrameBack: a frame is read as it was made; with one byte another one it is none; what is read is made as it was. -/
import Derived.Test.YtlpgafpmhihneaaDoorFrameFact
import Derived.Laws.IdiomStrings
namespace Go.Proofs.YtlpgafpmhihneaaDoor
open Go.RowKit

set_option maxRecDepth 400000 in
set_option maxHeartbeats 3200000 in
theorem back_long (ea : Nat → Addr) (f1 f2 f3 f4 f5 : Int) (s : List UInt8) (i : Int) (x : UInt8) (w : World) (hg : Glob w ea [1, 2, 3, 4, 8]) (hT : TxtEnv w) (hs : 150 < s.length) :
    Calls Tryd.prog 8 #[.agg #[.int .i64 f1, .int .i64 f2, .int .i64 f3, .int .i64 f4, .int .i64 f5], .string ⟨s.toArray⟩, .int .i64 i, .int .u8 (x.toNat : Int)] w fun e w' => e = .returned (.bool true) ∧ Below w.heap.size w w' := by
  have hb0 : Below w.heap.size w (w.alloc (.cells #[.int .i64 f1, .int .i64 f2, .int .i64 f3, .int .i64 f4, .int .i64 f5] 64)) := (Below.refl _ _).alloc (Nat.le_refl _) _
  have KF := Lib.hid (fun (W : World) (h : Below w.heap.size w W) => framed_any ea W (hg.below h) (hT.below h))
  clear hg hT
  go_enter Tryd.func8, Tryd.ntmps8
  go_wp2_with fail
  refine (KF.out _ hb0).mono ?_
  rintro e0 w0 ⟨he0, hb1⟩
  subst he0
  have hv0 := hb0.trans (hb1.mono hb0.size)
  have F0 := (five_new w f1 f2 f3 f4 f5).kept hb1
  have HF0 := Lib.hid F0
  clear F0 hb1
  go_wp2
  go_ret
  exact ⟨rfl, hv0⟩

set_option maxRecDepth 400000 in
set_option maxHeartbeats 3200000 in
theorem back_bad (ea : Nat → Addr) (f1 f2 f3 f4 f5 : Int) (s : List UInt8) (i : Int) (x : UInt8) (w : World) (hg : Glob w ea [1, 2, 3, 4, 8]) (hT : TxtEnv w) (hs : ¬ 150 < s.length) (hE : frameE ⟨f1, f2, f3, f4, f5⟩ ≠ 0) :
    Calls Tryd.prog 8 #[.agg #[.int .i64 f1, .int .i64 f2, .int .i64 f3, .int .i64 f4, .int .i64 f5], .string ⟨s.toArray⟩, .int .i64 i, .int .u8 (x.toNat : Int)] w fun e w' => e = .returned (.bool true) ∧ Below w.heap.size w w' := by
  have hb0 : Below w.heap.size w (w.alloc (.cells #[.int .i64 f1, .int .i64 f2, .int .i64 f3, .int .i64 f4, .int .i64 f5] 64)) := (Below.refl _ _).alloc (Nat.le_refl _) _
  have KF := Lib.hid (fun (W : World) (h : Below w.heap.size w W) => framed_any ea W (hg.below h) (hT.below h))
  have K1 := Lib.hid (fun (W : World) (h : Below w.heap.size w W) => fread_any ea s W (hg.below h) (hT.below h) (by omega))
  have KM := Lib.hid (fun (W : World) (h : Below w.heap.size w W) => make_any ea f1 f2 f3 f4 f5 W ((hg.below h).sub (by simp)) (hT.below h))
  have HB := Lib.hid (errV_pos ea hE)
  rw [makeF, if_neg hE, HB.out] at KM
  by_cases h0 : (frameF s).1 = 0
  · obtain ⟨hE, hTs⟩ := read_make h0
    rw [h0] at K1
    generalize (frameF s).2 = r at *
    obtain ⟨r1, r2, r3, r4, r5⟩ := r
    have KR := Lib.hid (fun (W : World) (h : Below w.heap.size w W) => make_any ea r1 r2 r3 r4 r5 W ((hg.below h).sub (by simp)) (hT.below h))
    rw [makeF, if_pos hE, hE, hTs] at KR
    simp only [Frm.arr, errV_zero] at K1 KR
    clear h0 hE hTs hg hT
    go_enter Tryd.func8, Tryd.ntmps8
    go_wp2_with fail
    refine (KF.out _ hb0).mono ?_
    rintro e0 w0 ⟨he0, hb1⟩
    subst he0
    have hv0 := hb0.trans (hb1.mono hb0.size)
    have F0 := (five_new w f1 f2 f3 f4 f5).kept hb1
    have HF0 := Lib.hid F0
    clear F0 hb1
    go_wp2_with fail
    refine (K1.out _ hv0).mono ?_
    rintro e1 w1 ⟨he1, hb2⟩
    subst he1
    have hv1 := hv0.trans (hb2.mono hv0.size)
    have HF1 := Lib.hid (HF0.out.kept hb2)
    clear hb2 HF0 K1
    go_wp2_with fail
    have hv2 : Below w.heap.size w (w1.alloc (.cells #[.int .i64 r1, .int .i64 r2, .int .i64 r3, .int .i64 r4, .int .i64 r5] 64)) := hv1.alloc hv1.size _
    have HF2 := Lib.hid (HF1.out.kept ((Below.refl w1.heap.size w1).alloc (Nat.le_refl _) (.cells #[.int .i64 r1, .int .i64 r2, .int .i64 r3, .int .i64 r4, .int .i64 r5] 64)))
    have HR2 := Lib.hid (five_new w1 r1 r2 r3 r4 r5)
    refine (KR.out _ hv2).mono ?_
    rintro e2 w2 ⟨he2, hb3⟩
    subst he2
    have hv := hv2.trans (hb3.mono hv2.size)
    have HF := Lib.hid (HF2.out.kept hb3)
    have HR := Lib.hid (HR2.out.kept hb3)
    have hlt : w.heap.size < w1.heap.size := HF1.out.lt
    obtain ⟨k0, k1, k2, k3, k4, _, _, _, _, _⟩ := HF.out.cells
    generalize w1.heap.size = b10 at *
    clear hb3 HF2 HR2 hv2 HF1 hv1 hv0 KR KF hb0
    go_wp2_with fail
    refine (KM.out _ hv).mono ?_
    rintro e3 w3 ⟨he3, hb4⟩
    subst he3
    have hve := hv.trans (hb4.mono hv.size)
    go_wp2
    go_ret
    exact ⟨rfl, hve⟩
  · have HE := Lib.hid (errV_pos ea h0)
    have hz := frameF_err h0
    rw [HE.out, hz] at K1
    simp only [Frm0, Frm.arr] at K1
    clear h0 hz hg hT
    go_enter Tryd.func8, Tryd.ntmps8
    go_wp2_with fail
    refine (KF.out _ hb0).mono ?_
    rintro e0 w0 ⟨he0, hb1⟩
    subst he0
    have hv0 := hb0.trans (hb1.mono hb0.size)
    have F0 := (five_new w f1 f2 f3 f4 f5).kept hb1
    have HF0 := Lib.hid F0
    clear F0 hb1
    go_wp2_with fail
    refine (K1.out _ hv0).mono ?_
    rintro e1 w1 ⟨he1, hb2⟩
    subst he1
    have hv1 := hv0.trans (hb2.mono hv0.size)
    have HF1 := Lib.hid (HF0.out.kept hb2)
    clear hb2 HF0 K1
    have hv : Below w.heap.size w (w1.alloc (.cells #[.int .i64 0, .int .i64 0, .int .i64 0, .int .i64 0, .int .i64 0] 64)) := hv1.alloc hv1.size _
    have HF := Lib.hid (HF1.out.kept ((Below.refl w1.heap.size w1).alloc (Nat.le_refl _) (.cells #[.int .i64 0, .int .i64 0, .int .i64 0, .int .i64 0, .int .i64 0] 64)))
    have HR := Lib.hid (five_new w1 0 0 0 0 0)
    have hlt : w.heap.size < w1.heap.size := HF1.out.lt
    obtain ⟨k0, k1, k2, k3, k4, _, _, _, _, _⟩ := HF.out.cells
    clear HF1 hv0 KF hb0
    go_wp2_with fail
    generalize (w1.alloc (.cells #[.int .i64 0, .int .i64 0, .int .i64 0, .int .i64 0, .int .i64 0] 64)) = w2 at *
    generalize w1.heap.size = b10 at *
    refine (KM.out _ hv).mono ?_
    rintro e3 w3 ⟨he3, hb4⟩
    subst he3
    have hve := hv.trans (hb4.mono hv.size)
    go_wp2
    go_ret
    exact ⟨rfl, hve⟩

set_option maxRecDepth 400000 in
set_option maxHeartbeats 3200000 in
theorem back_neg (ea : Nat → Addr) (f1 f2 f3 f4 f5 : Int) (s : List UInt8) (i : Int) (x : UInt8) (w : World) (hg : Glob w ea [1, 2, 3, 4, 8]) (hT : TxtEnv w) (hs : ¬ 150 < s.length) (hE : frameE ⟨f1, f2, f3, f4, f5⟩ = 0) (hi : i < 0) :
    Calls Tryd.prog 8 #[.agg #[.int .i64 f1, .int .i64 f2, .int .i64 f3, .int .i64 f4, .int .i64 f5], .string ⟨s.toArray⟩, .int .i64 i, .int .u8 (x.toNat : Int)] w fun e w' => e = .returned (.bool true) ∧ Below w.heap.size w w' := by
  have hb0 : Below w.heap.size w (w.alloc (.cells #[.int .i64 f1, .int .i64 f2, .int .i64 f3, .int .i64 f4, .int .i64 f5] 64)) := (Below.refl _ _).alloc (Nat.le_refl _) _
  have KF := Lib.hid (fun (W : World) (h : Below w.heap.size w W) => framed_any ea W (hg.below h) (hT.below h))
  have K1 := Lib.hid (fun (W : World) (h : Below w.heap.size w W) => fread_any ea s W (hg.below h) (hT.below h) (by omega))
  have KM := Lib.hid (fun (W : World) (h : Below w.heap.size w W) => make_any ea f1 f2 f3 f4 f5 W ((hg.below h).sub (by simp)) (hT.below h))
  have hml := frameT_short hE
  have hmk := make_read hE
  have KT := Lib.hid (fun (W : World) (h : Below w.heap.size w W) => fread_any ea (frameT ⟨f1, f2, f3, f4, f5⟩) W (hg.below h) (hT.below h) (by omega))
  rw [hmk] at KT
  rw [makeF, if_pos hE, hE] at KM
  simp only [errV_zero, Frm.arr] at KM KT
  clear hE hmk
  generalize frameT ⟨f1, f2, f3, f4, f5⟩ = t at *
  by_cases h0 : (frameF s).1 = 0
  · obtain ⟨hE, hTs⟩ := read_make h0
    rw [h0] at K1
    generalize (frameF s).2 = r at *
    obtain ⟨r1, r2, r3, r4, r5⟩ := r
    have KR := Lib.hid (fun (W : World) (h : Below w.heap.size w W) => make_any ea r1 r2 r3 r4 r5 W ((hg.below h).sub (by simp)) (hT.below h))
    rw [makeF, if_pos hE, hE, hTs] at KR
    simp only [Frm.arr, errV_zero] at K1 KR
    clear h0 hE hTs hg hT
    go_enter Tryd.func8, Tryd.ntmps8
    go_wp2_with fail
    refine (KF.out _ hb0).mono ?_
    rintro e0 w0 ⟨he0, hb1⟩
    subst he0
    have hv0 := hb0.trans (hb1.mono hb0.size)
    have F0 := (five_new w f1 f2 f3 f4 f5).kept hb1
    have HF0 := Lib.hid F0
    clear F0 hb1
    go_wp2_with fail
    refine (K1.out _ hv0).mono ?_
    rintro e1 w1 ⟨he1, hb2⟩
    subst he1
    have hv1 := hv0.trans (hb2.mono hv0.size)
    have HF1 := Lib.hid (HF0.out.kept hb2)
    clear hb2 HF0 K1
    go_wp2_with fail
    have hv2 : Below w.heap.size w (w1.alloc (.cells #[.int .i64 r1, .int .i64 r2, .int .i64 r3, .int .i64 r4, .int .i64 r5] 64)) := hv1.alloc hv1.size _
    have HF2 := Lib.hid (HF1.out.kept ((Below.refl w1.heap.size w1).alloc (Nat.le_refl _) (.cells #[.int .i64 r1, .int .i64 r2, .int .i64 r3, .int .i64 r4, .int .i64 r5] 64)))
    have HR2 := Lib.hid (five_new w1 r1 r2 r3 r4 r5)
    refine (KR.out _ hv2).mono ?_
    rintro e2 w2 ⟨he2, hb3⟩
    subst he2
    have hv := hv2.trans (hb3.mono hv2.size)
    have HF := Lib.hid (HF2.out.kept hb3)
    have HR := Lib.hid (HR2.out.kept hb3)
    have hlt : w.heap.size < w1.heap.size := HF1.out.lt
    obtain ⟨k0, k1, k2, k3, k4, _, _, _, _, _⟩ := HF.out.cells
    generalize w1.heap.size = b10 at *
    clear hb3 HF2 HR2 hv2 HF1 hv1 hv0 KR KF hb0
    go_wp2_with fail
    refine (KM.out _ hv).mono ?_
    rintro e3 w3 ⟨he3, hb4⟩
    subst he3
    have hve := hv.trans (hb4.mono hv.size)
    have HF := Lib.hid (HF.out.kept hb4)
    have HR := Lib.hid (HR.out.kept hb4)
    clear k0 k1 k2 k3 k4 hb4 hv KM
    go_wp2_with fail
    refine (KT.out _ hve).mono ?_
    rintro e4 w4 ⟨he4, hb5⟩
    subst he4
    have hvf := hve.trans (hb5.mono hve.size)
    obtain ⟨k0, k1, k2, k3, k4, _, _, _, _, _⟩ := (HF.out.kept hb5).cells
    obtain ⟨m0, m1, m2, m3, m4, g0, g1, g2, g3, g4⟩ := (HR.out.kept hb5).cells
    clear hb5 hve HF HR KT
    go_wp2
    go_ret
    exact ⟨rfl, ((((hvf.setCell (p := ⟨b10, 0, none⟩) (Nat.le_of_lt hlt) _).setCell (p := ⟨b10, 1, none⟩) (Nat.le_of_lt hlt) _).setCell (p := ⟨b10, 2, none⟩) (Nat.le_of_lt hlt) _).setCell (p := ⟨b10, 3, none⟩) (Nat.le_of_lt hlt) _).setCell (p := ⟨b10, 4, none⟩) (Nat.le_of_lt hlt) _⟩
  · have HE := Lib.hid (errV_pos ea h0)
    have hz := frameF_err h0
    rw [HE.out, hz] at K1
    simp only [Frm0, Frm.arr] at K1
    clear h0 hz hg hT
    go_enter Tryd.func8, Tryd.ntmps8
    go_wp2_with fail
    refine (KF.out _ hb0).mono ?_
    rintro e0 w0 ⟨he0, hb1⟩
    subst he0
    have hv0 := hb0.trans (hb1.mono hb0.size)
    have F0 := (five_new w f1 f2 f3 f4 f5).kept hb1
    have HF0 := Lib.hid F0
    clear F0 hb1
    go_wp2_with fail
    refine (K1.out _ hv0).mono ?_
    rintro e1 w1 ⟨he1, hb2⟩
    subst he1
    have hv1 := hv0.trans (hb2.mono hv0.size)
    have HF1 := Lib.hid (HF0.out.kept hb2)
    clear hb2 HF0 K1
    have hv : Below w.heap.size w (w1.alloc (.cells #[.int .i64 0, .int .i64 0, .int .i64 0, .int .i64 0, .int .i64 0] 64)) := hv1.alloc hv1.size _
    have HF := Lib.hid (HF1.out.kept ((Below.refl w1.heap.size w1).alloc (Nat.le_refl _) (.cells #[.int .i64 0, .int .i64 0, .int .i64 0, .int .i64 0, .int .i64 0] 64)))
    have HR := Lib.hid (five_new w1 0 0 0 0 0)
    have hlt : w.heap.size < w1.heap.size := HF1.out.lt
    obtain ⟨k0, k1, k2, k3, k4, _, _, _, _, _⟩ := HF.out.cells
    clear HF1 hv0 KF hb0
    go_wp2_with fail
    generalize (w1.alloc (.cells #[.int .i64 0, .int .i64 0, .int .i64 0, .int .i64 0, .int .i64 0] 64)) = w2 at *
    generalize w1.heap.size = b10 at *
    refine (KM.out _ hv).mono ?_
    rintro e3 w3 ⟨he3, hb4⟩
    subst he3
    have hve := hv.trans (hb4.mono hv.size)
    have HF := Lib.hid (HF.out.kept hb4)
    have HR := Lib.hid (HR.out.kept hb4)
    clear k0 k1 k2 k3 k4 hb4 hv KM
    go_wp2_with fail
    refine (KT.out _ hve).mono ?_
    rintro e4 w4 ⟨he4, hb5⟩
    subst he4
    have hvf := hve.trans (hb5.mono hve.size)
    obtain ⟨k0, k1, k2, k3, k4, _, _, _, _, _⟩ := (HF.out.kept hb5).cells
    obtain ⟨m0, m1, m2, m3, m4, g0, g1, g2, g3, g4⟩ := (HR.out.kept hb5).cells
    clear hb5 hve HF HR KT
    go_wp2
    go_ret
    exact ⟨rfl, ((((hvf.setCell (p := ⟨b10, 0, none⟩) (Nat.le_of_lt hlt) _).setCell (p := ⟨b10, 1, none⟩) (Nat.le_of_lt hlt) _).setCell (p := ⟨b10, 2, none⟩) (Nat.le_of_lt hlt) _).setCell (p := ⟨b10, 3, none⟩) (Nat.le_of_lt hlt) _).setCell (p := ⟨b10, 4, none⟩) (Nat.le_of_lt hlt) _⟩

set_option maxRecDepth 400000 in
set_option maxHeartbeats 3200000 in
theorem back_far (ea : Nat → Addr) (f1 f2 f3 f4 f5 : Int) (s : List UInt8) (i : Int) (x : UInt8) (w : World) (hg : Glob w ea [1, 2, 3, 4, 8]) (hT : TxtEnv w) (hs : ¬ 150 < s.length) (hE : frameE ⟨f1, f2, f3, f4, f5⟩ = 0) (m : Nat) (him : i = (m : Int)) (hi : (frameT ⟨f1, f2, f3, f4, f5⟩).length ≤ m) :
    Calls Tryd.prog 8 #[.agg #[.int .i64 f1, .int .i64 f2, .int .i64 f3, .int .i64 f4, .int .i64 f5], .string ⟨s.toArray⟩, .int .i64 i, .int .u8 (x.toNat : Int)] w fun e w' => e = .returned (.bool true) ∧ Below w.heap.size w w' := by
  have hb0 : Below w.heap.size w (w.alloc (.cells #[.int .i64 f1, .int .i64 f2, .int .i64 f3, .int .i64 f4, .int .i64 f5] 64)) := (Below.refl _ _).alloc (Nat.le_refl _) _
  have KF := Lib.hid (fun (W : World) (h : Below w.heap.size w W) => framed_any ea W (hg.below h) (hT.below h))
  have K1 := Lib.hid (fun (W : World) (h : Below w.heap.size w W) => fread_any ea s W (hg.below h) (hT.below h) (by omega))
  have KM := Lib.hid (fun (W : World) (h : Below w.heap.size w W) => make_any ea f1 f2 f3 f4 f5 W ((hg.below h).sub (by simp)) (hT.below h))
  have hml := frameT_short hE
  have hmk := make_read hE
  have KT := Lib.hid (fun (W : World) (h : Below w.heap.size w W) => fread_any ea (frameT ⟨f1, f2, f3, f4, f5⟩) W (hg.below h) (hT.below h) (by omega))
  rw [hmk] at KT
  rw [makeF, if_pos hE, hE] at KM
  simp only [errV_zero, Frm.arr] at KM KT
  clear hE hmk
  generalize frameT ⟨f1, f2, f3, f4, f5⟩ = t at *
  subst him
  by_cases h0 : (frameF s).1 = 0
  · obtain ⟨hE, hTs⟩ := read_make h0
    rw [h0] at K1
    generalize (frameF s).2 = r at *
    obtain ⟨r1, r2, r3, r4, r5⟩ := r
    have KR := Lib.hid (fun (W : World) (h : Below w.heap.size w W) => make_any ea r1 r2 r3 r4 r5 W ((hg.below h).sub (by simp)) (hT.below h))
    rw [makeF, if_pos hE, hE, hTs] at KR
    simp only [Frm.arr, errV_zero] at K1 KR
    clear h0 hE hTs hg hT
    go_enter Tryd.func8, Tryd.ntmps8
    go_wp2_with fail
    refine (KF.out _ hb0).mono ?_
    rintro e0 w0 ⟨he0, hb1⟩
    subst he0
    have hv0 := hb0.trans (hb1.mono hb0.size)
    have F0 := (five_new w f1 f2 f3 f4 f5).kept hb1
    have HF0 := Lib.hid F0
    clear F0 hb1
    go_wp2_with fail
    refine (K1.out _ hv0).mono ?_
    rintro e1 w1 ⟨he1, hb2⟩
    subst he1
    have hv1 := hv0.trans (hb2.mono hv0.size)
    have HF1 := Lib.hid (HF0.out.kept hb2)
    clear hb2 HF0 K1
    go_wp2_with fail
    have hv2 : Below w.heap.size w (w1.alloc (.cells #[.int .i64 r1, .int .i64 r2, .int .i64 r3, .int .i64 r4, .int .i64 r5] 64)) := hv1.alloc hv1.size _
    have HF2 := Lib.hid (HF1.out.kept ((Below.refl w1.heap.size w1).alloc (Nat.le_refl _) (.cells #[.int .i64 r1, .int .i64 r2, .int .i64 r3, .int .i64 r4, .int .i64 r5] 64)))
    have HR2 := Lib.hid (five_new w1 r1 r2 r3 r4 r5)
    refine (KR.out _ hv2).mono ?_
    rintro e2 w2 ⟨he2, hb3⟩
    subst he2
    have hv := hv2.trans (hb3.mono hv2.size)
    have HF := Lib.hid (HF2.out.kept hb3)
    have HR := Lib.hid (HR2.out.kept hb3)
    have hlt : w.heap.size < w1.heap.size := HF1.out.lt
    obtain ⟨k0, k1, k2, k3, k4, _, _, _, _, _⟩ := HF.out.cells
    generalize w1.heap.size = b10 at *
    clear hb3 HF2 HR2 hv2 HF1 hv1 hv0 KR KF hb0
    go_wp2_with fail
    refine (KM.out _ hv).mono ?_
    rintro e3 w3 ⟨he3, hb4⟩
    subst he3
    have hve := hv.trans (hb4.mono hv.size)
    have HF := Lib.hid (HF.out.kept hb4)
    have HR := Lib.hid (HR.out.kept hb4)
    clear k0 k1 k2 k3 k4 hb4 hv KM
    go_wp2_with fail
    refine (KT.out _ hve).mono ?_
    rintro e4 w4 ⟨he4, hb5⟩
    subst he4
    have hvf := hve.trans (hb5.mono hve.size)
    obtain ⟨k0, k1, k2, k3, k4, _, _, _, _, _⟩ := (HF.out.kept hb5).cells
    obtain ⟨m0, m1, m2, m3, m4, g0, g1, g2, g3, g4⟩ := (HR.out.kept hb5).cells
    clear hb5 hve HF HR KT
    go_wp2
    go_ret
    exact ⟨rfl, ((((hvf.setCell (p := ⟨b10, 0, none⟩) (Nat.le_of_lt hlt) _).setCell (p := ⟨b10, 1, none⟩) (Nat.le_of_lt hlt) _).setCell (p := ⟨b10, 2, none⟩) (Nat.le_of_lt hlt) _).setCell (p := ⟨b10, 3, none⟩) (Nat.le_of_lt hlt) _).setCell (p := ⟨b10, 4, none⟩) (Nat.le_of_lt hlt) _⟩
  · have HE := Lib.hid (errV_pos ea h0)
    have hz := frameF_err h0
    rw [HE.out, hz] at K1
    simp only [Frm0, Frm.arr] at K1
    clear h0 hz hg hT
    go_enter Tryd.func8, Tryd.ntmps8
    go_wp2_with fail
    refine (KF.out _ hb0).mono ?_
    rintro e0 w0 ⟨he0, hb1⟩
    subst he0
    have hv0 := hb0.trans (hb1.mono hb0.size)
    have F0 := (five_new w f1 f2 f3 f4 f5).kept hb1
    have HF0 := Lib.hid F0
    clear F0 hb1
    go_wp2_with fail
    refine (K1.out _ hv0).mono ?_
    rintro e1 w1 ⟨he1, hb2⟩
    subst he1
    have hv1 := hv0.trans (hb2.mono hv0.size)
    have HF1 := Lib.hid (HF0.out.kept hb2)
    clear hb2 HF0 K1
    have hv : Below w.heap.size w (w1.alloc (.cells #[.int .i64 0, .int .i64 0, .int .i64 0, .int .i64 0, .int .i64 0] 64)) := hv1.alloc hv1.size _
    have HF := Lib.hid (HF1.out.kept ((Below.refl w1.heap.size w1).alloc (Nat.le_refl _) (.cells #[.int .i64 0, .int .i64 0, .int .i64 0, .int .i64 0, .int .i64 0] 64)))
    have HR := Lib.hid (five_new w1 0 0 0 0 0)
    have hlt : w.heap.size < w1.heap.size := HF1.out.lt
    obtain ⟨k0, k1, k2, k3, k4, _, _, _, _, _⟩ := HF.out.cells
    clear HF1 hv0 KF hb0
    go_wp2_with fail
    generalize (w1.alloc (.cells #[.int .i64 0, .int .i64 0, .int .i64 0, .int .i64 0, .int .i64 0] 64)) = w2 at *
    generalize w1.heap.size = b10 at *
    refine (KM.out _ hv).mono ?_
    rintro e3 w3 ⟨he3, hb4⟩
    subst he3
    have hve := hv.trans (hb4.mono hv.size)
    have HF := Lib.hid (HF.out.kept hb4)
    have HR := Lib.hid (HR.out.kept hb4)
    clear k0 k1 k2 k3 k4 hb4 hv KM
    go_wp2_with fail
    refine (KT.out _ hve).mono ?_
    rintro e4 w4 ⟨he4, hb5⟩
    subst he4
    have hvf := hve.trans (hb5.mono hve.size)
    obtain ⟨k0, k1, k2, k3, k4, _, _, _, _, _⟩ := (HF.out.kept hb5).cells
    obtain ⟨m0, m1, m2, m3, m4, g0, g1, g2, g3, g4⟩ := (HR.out.kept hb5).cells
    clear hb5 hve HF HR KT
    go_wp2
    go_ret
    exact ⟨rfl, ((((hvf.setCell (p := ⟨b10, 0, none⟩) (Nat.le_of_lt hlt) _).setCell (p := ⟨b10, 1, none⟩) (Nat.le_of_lt hlt) _).setCell (p := ⟨b10, 2, none⟩) (Nat.le_of_lt hlt) _).setCell (p := ⟨b10, 3, none⟩) (Nat.le_of_lt hlt) _).setCell (p := ⟨b10, 4, none⟩) (Nat.le_of_lt hlt) _⟩

theorem Five.set5 {W : World} {b : Nat} {x0 x1 x2 x3 x4 : Int} (h : Five W b x0 x1 x2 x3 x4) (y0 y1 y2 y3 y4 : Int) :
    Five (((((W.setCell ⟨b, 0, none⟩ (.int .i64 y0)).setCell ⟨b, 1, none⟩ (.int .i64 y1)).setCell ⟨b, 2, none⟩ (.int .i64 y2)).setCell ⟨b, 3, none⟩ (.int .i64 y3)).setCell ⟨b, 4, none⟩ (.int .i64 y4)) b y0 y1 y2 y3 y4 := by
  have h' : W.heap[b]? = some (.cells #[.int .i64 x0, .int .i64 x1, .int .i64 x2, .int .i64 x3, .int .i64 x4] 64) := h
  unfold Five World.setCell
  simp [Array.getElem?_modify, h']
theorem frameT_after (f : Frm) (j : Nat) (hj : j < (frameT f).length) (h : (frameBody f).length < j) : (frameT f)[j] ≠ 32 := by
  intro e
  obtain ⟨m, rfl⟩ : ∃ m, j = (frameBody f).length + (m + 1) := ⟨j - (frameBody f).length - 1, by omega⟩
  have h32 : (32 : UInt8) ∉ Lib.itoa ((sumF (frameBody f) : Nat) : Int) := itoa_no (by decide) _
  have hm : m < (Lib.itoa ((sumF (frameBody f) : Nat) : Int)).length := by rw [frameT, List.length_append, List.length_cons] at hj; omega
  have : (frameT f)[(frameBody f).length + (m + 1)] = (Lib.itoa ((sumF (frameBody f) : Nat) : Int))[m] := by
    simp only [frameT]
    rw [List.getElem_append_right (by omega)]
    simp [show (frameBody f).length + (m + 1) - (frameBody f).length = m + 1 by omega]
  rw [this] at e
  exact h32 (e ▸ List.getElem_mem hm)
set_option maxRecDepth 400000 in
set_option maxHeartbeats 3200000 in
theorem back_same (ea : Nat → Addr) (f1 f2 f3 f4 f5 : Int) (s : List UInt8) (i : Int) (x : UInt8) (w : World) (hg : Glob w ea [1, 2, 3, 4, 8]) (hT : TxtEnv w) (hs : ¬ 150 < s.length) (t : List UInt8) (n j : Nat) (hE : frameE ⟨f1, f2, f3, f4, f5⟩ = 0) (hmt : makeF ⟨f1, f2, f3, f4, f5⟩ = t) (hml : t.length ≤ 95) (hmk : frameF t = (0, ⟨f1, f2, f3, f4, f5⟩)) (hnt : n < t.length) (hn0 : 0 < n) (hb : t[n] = 32) (haft : ∀ k (hk : k < t.length), n < k → t[k] ≠ 32) (hij : i = (j : Int)) (hj : j < t.length) (hc : t[j] = x ∨ j = n ∨ n < j ∧ x = 32) :
    Calls Tryd.prog 8 #[.agg #[.int .i64 f1, .int .i64 f2, .int .i64 f3, .int .i64 f4, .int .i64 f5], .string ⟨s.toArray⟩, .int .i64 i, .int .u8 (x.toNat : Int)] w fun e w' => e = .returned (.bool true) ∧ Below w.heap.size w w' := by
  have hb0 : Below w.heap.size w (w.alloc (.cells #[.int .i64 f1, .int .i64 f2, .int .i64 f3, .int .i64 f4, .int .i64 f5] 64)) := (Below.refl _ _).alloc (Nat.le_refl _) _
  have KF := Lib.hid (fun (W : World) (h : Below w.heap.size w W) => framed_any ea W (hg.below h) (hT.below h))
  have K1 := Lib.hid (fun (W : World) (h : Below w.heap.size w W) => fread_any ea s W (hg.below h) (hT.below h) (by omega))
  have KM := Lib.hid (fun (W : World) (h : Below w.heap.size w W) => make_any ea f1 f2 f3 f4 f5 W ((hg.below h).sub (by simp)) (hT.below h))
  have KT := Lib.hid (fun (W : World) (h : Below w.heap.size w W) => fread_any ea t W (hg.below h) (hT.below h) (by omega))
  rw [hmk] at KT
  rw [hmt, hE] at KM
  simp only [errV_zero, Frm.arr] at KM KT
  have HB := Lib.hid hb
  have HAFT := Lib.hid haft
  clear hmt hmk hE hb haft
  subst hij
  by_cases h0 : (frameF s).1 = 0
  · obtain ⟨hE, hTs⟩ := read_make h0
    rw [h0] at K1
    generalize (frameF s).2 = r at *
    obtain ⟨r1, r2, r3, r4, r5⟩ := r
    have KR := Lib.hid (fun (W : World) (h : Below w.heap.size w W) => make_any ea r1 r2 r3 r4 r5 W ((hg.below h).sub (by simp)) (hT.below h))
    rw [makeF, if_pos hE, hE, hTs] at KR
    simp only [Frm.arr, errV_zero] at K1 KR
    clear h0 hE hTs hg hT
    go_enter Tryd.func8, Tryd.ntmps8
    go_wp2_with fail
    refine (KF.out _ hb0).mono ?_
    rintro e0 w0 ⟨he0, hb1⟩
    subst he0
    have hv0 := hb0.trans (hb1.mono hb0.size)
    have F0 := (five_new w f1 f2 f3 f4 f5).kept hb1
    have HF0 := Lib.hid F0
    clear F0 hb1
    go_wp2_with fail
    refine (K1.out _ hv0).mono ?_
    rintro e1 w1 ⟨he1, hb2⟩
    subst he1
    have hv1 := hv0.trans (hb2.mono hv0.size)
    have HF1 := Lib.hid (HF0.out.kept hb2)
    clear hb2 HF0 K1
    go_wp2_with fail
    have hv2 : Below w.heap.size w (w1.alloc (.cells #[.int .i64 r1, .int .i64 r2, .int .i64 r3, .int .i64 r4, .int .i64 r5] 64)) := hv1.alloc hv1.size _
    have HF2 := Lib.hid (HF1.out.kept ((Below.refl w1.heap.size w1).alloc (Nat.le_refl _) (.cells #[.int .i64 r1, .int .i64 r2, .int .i64 r3, .int .i64 r4, .int .i64 r5] 64)))
    have HR2 := Lib.hid (five_new w1 r1 r2 r3 r4 r5)
    refine (KR.out _ hv2).mono ?_
    rintro e2 w2 ⟨he2, hb3⟩
    subst he2
    have hv := hv2.trans (hb3.mono hv2.size)
    have HF := Lib.hid (HF2.out.kept hb3)
    have HR := Lib.hid (HR2.out.kept hb3)
    have hlt : w.heap.size < w1.heap.size := HF1.out.lt
    obtain ⟨k0, k1, k2, k3, k4, _, _, _, _, _⟩ := HF.out.cells
    generalize w1.heap.size = b10 at *
    clear hb3 HF2 HR2 hv2 HF1 hv1 hv0 KR KF hb0
    go_wp2_with fail
    refine (KM.out _ hv).mono ?_
    rintro e3 w3 ⟨he3, hb4⟩
    subst he3
    have hve := hv.trans (hb4.mono hv.size)
    have HF := Lib.hid (HF.out.kept hb4)
    have HR := Lib.hid (HR.out.kept hb4)
    clear k0 k1 k2 k3 k4 hb4 hv KM
    go_wp2_with fail
    refine (KT.out _ hve).mono ?_
    rintro e4 w4 ⟨he4, hb5⟩
    subst he4
    have hvf := hve.trans (hb5.mono hve.size)
    obtain ⟨k0, k1, k2, k3, k4, _, _, _, _, _⟩ := (HF.out.kept hb5).cells
    have HRK := HR
    obtain ⟨m0, m1, m2, m3, m4, g0, g1, g2, g3, g4⟩ := (HR.out.kept hb5).cells
    clear hve HF HR KT
    have HR4 := Lib.hid ((HRK.out).kept hb5)
    clear HRK hb5
    go_wp2
    have hvs : Below w.heap.size w (((((w4.setCell ⟨b10, 0, none⟩ (.int .i64 f1)).setCell ⟨b10, 1, none⟩ (.int .i64 f2)).setCell ⟨b10, 2, none⟩ (.int .i64 f3)).setCell ⟨b10, 3, none⟩ (.int .i64 f4)).setCell ⟨b10, 4, none⟩ (.int .i64 f5)) := ((((hvf.setCell (p := ⟨b10, 0, none⟩) (Nat.le_of_lt hlt) _).setCell (p := ⟨b10, 1, none⟩) (Nat.le_of_lt hlt) _).setCell (p := ⟨b10, 2, none⟩) (Nat.le_of_lt hlt) _).setCell (p := ⟨b10, 3, none⟩) (Nat.le_of_lt hlt) _).setCell (p := ⟨b10, 4, none⟩) (Nat.le_of_lt hlt) _
    have HR5 := Lib.hid (Five.set5 HR4.out f1 f2 f3 f4 f5)
    clear HR4 hvf
    generalize (((((w4.setCell ⟨b10, 0, none⟩ (.int .i64 f1)).setCell ⟨b10, 1, none⟩ (.int .i64 f2)).setCell ⟨b10, 2, none⟩ (.int .i64 f3)).setCell ⟨b10, 3, none⟩ (.int .i64 f4)).setCell ⟨b10, 4, none⟩ (.int .i64 f5)) = W5 at *
    clear k0 k1 k2 k3 k4 m0 m1 m2 m3 m4 g0 g1 g2 g3 g4
    have hb := HB.out
    have haft := HAFT.out
    go_loop [15] (fun z => ∃ k : Nat, n ≤ k ∧ k < t.length ∧ z = .int .i64 k) (fun z => (intOf z).toNat)
    case atStart => exact ⟨t.length - 1, by omega, by omega, by go_num⟩
    case round =>
      obtain ⟨k, hk0, hk1, rfl⟩ := hrel
      have hx : (⟨t.toArray⟩ : ByteArray)[k]'(by simpa [ByteArray.size] using hk1) = t[k] := rfl
      by_cases hkn : k = n
      · subst hkn
        have hx2 : t[k] = 32 := hb
        have hxj : (⟨t.toArray⟩ : ByteArray)[j]'(by simpa [ByteArray.size] using hj) = t[j] := rfl
        rw [hx2] at hx
        by_cases hq : t[j] = x
        · rw [hq] at hxj
          clear hx2 hb hq hc
          go_wp2
          go_ret
          exact ⟨rfl, hvs⟩
        · have hq2 : ¬ ((t[j].toNat : Int) = (x.toNat : Int)) := fun e => hq (UInt8.toNat_inj.1 (by omega))
          by_cases hjk : j = k
          · clear hc haft
            subst hjk
            rw [hx2] at hq2
            clear hxj hx2 hb hq
            go_wp2
            go_ret
            exact ⟨rfl, hvs⟩
          · obtain ⟨hc1, rfl⟩ : k < j ∧ x = 32 := by rcases hc with h | h | h; exact absurd h hq; exact absurd h hjk; exact h
            clear hx2 hb hq hc
            generalize t[j] = y at *
            go_wp2
            go_ret
            exact ⟨rfl, hvs⟩
      · have hx2 := haft k hk1 (by omega)
        have hx3 : ¬ ((t[k].toNat : Int) = 32) := fun e => hx2 (UInt8.toNat_inj.1 (by simp; omega))
        generalize t[k] = y at *
        go_wp2
        go_round
        case rel => exact ⟨k - 1, by omega, by omega, by go_num⟩
        case measure => simp [intOf]; omega
  · have HE := Lib.hid (errV_pos ea h0)
    have hz := frameF_err h0
    rw [HE.out, hz] at K1
    simp only [Frm0, Frm.arr] at K1
    clear h0 hz hg hT
    go_enter Tryd.func8, Tryd.ntmps8
    go_wp2_with fail
    refine (KF.out _ hb0).mono ?_
    rintro e0 w0 ⟨he0, hb1⟩
    subst he0
    have hv0 := hb0.trans (hb1.mono hb0.size)
    have F0 := (five_new w f1 f2 f3 f4 f5).kept hb1
    have HF0 := Lib.hid F0
    clear F0 hb1
    go_wp2_with fail
    refine (K1.out _ hv0).mono ?_
    rintro e1 w1 ⟨he1, hb2⟩
    subst he1
    have hv1 := hv0.trans (hb2.mono hv0.size)
    have HF1 := Lib.hid (HF0.out.kept hb2)
    clear hb2 HF0 K1
    have hv : Below w.heap.size w (w1.alloc (.cells #[.int .i64 0, .int .i64 0, .int .i64 0, .int .i64 0, .int .i64 0] 64)) := hv1.alloc hv1.size _
    have HF := Lib.hid (HF1.out.kept ((Below.refl w1.heap.size w1).alloc (Nat.le_refl _) (.cells #[.int .i64 0, .int .i64 0, .int .i64 0, .int .i64 0, .int .i64 0] 64)))
    have HR := Lib.hid (five_new w1 0 0 0 0 0)
    have hlt : w.heap.size < w1.heap.size := HF1.out.lt
    obtain ⟨k0, k1, k2, k3, k4, _, _, _, _, _⟩ := HF.out.cells
    clear HF1 hv0 KF hb0
    go_wp2_with fail
    generalize (w1.alloc (.cells #[.int .i64 0, .int .i64 0, .int .i64 0, .int .i64 0, .int .i64 0] 64)) = w2 at *
    generalize w1.heap.size = b10 at *
    refine (KM.out _ hv).mono ?_
    rintro e3 w3 ⟨he3, hb4⟩
    subst he3
    have hve := hv.trans (hb4.mono hv.size)
    have HF := Lib.hid (HF.out.kept hb4)
    have HR := Lib.hid (HR.out.kept hb4)
    clear k0 k1 k2 k3 k4 hb4 hv KM
    go_wp2_with fail
    refine (KT.out _ hve).mono ?_
    rintro e4 w4 ⟨he4, hb5⟩
    subst he4
    have hvf := hve.trans (hb5.mono hve.size)
    obtain ⟨k0, k1, k2, k3, k4, _, _, _, _, _⟩ := (HF.out.kept hb5).cells
    have HRK := HR
    obtain ⟨m0, m1, m2, m3, m4, g0, g1, g2, g3, g4⟩ := (HR.out.kept hb5).cells
    clear hve HF HR KT
    have HR4 := Lib.hid ((HRK.out).kept hb5)
    clear HRK hb5
    go_wp2
    have hvs : Below w.heap.size w (((((w4.setCell ⟨b10, 0, none⟩ (.int .i64 f1)).setCell ⟨b10, 1, none⟩ (.int .i64 f2)).setCell ⟨b10, 2, none⟩ (.int .i64 f3)).setCell ⟨b10, 3, none⟩ (.int .i64 f4)).setCell ⟨b10, 4, none⟩ (.int .i64 f5)) := ((((hvf.setCell (p := ⟨b10, 0, none⟩) (Nat.le_of_lt hlt) _).setCell (p := ⟨b10, 1, none⟩) (Nat.le_of_lt hlt) _).setCell (p := ⟨b10, 2, none⟩) (Nat.le_of_lt hlt) _).setCell (p := ⟨b10, 3, none⟩) (Nat.le_of_lt hlt) _).setCell (p := ⟨b10, 4, none⟩) (Nat.le_of_lt hlt) _
    have HR5 := Lib.hid (Five.set5 HR4.out f1 f2 f3 f4 f5)
    clear HR4 hvf
    generalize (((((w4.setCell ⟨b10, 0, none⟩ (.int .i64 f1)).setCell ⟨b10, 1, none⟩ (.int .i64 f2)).setCell ⟨b10, 2, none⟩ (.int .i64 f3)).setCell ⟨b10, 3, none⟩ (.int .i64 f4)).setCell ⟨b10, 4, none⟩ (.int .i64 f5)) = W5 at *
    clear k0 k1 k2 k3 k4 m0 m1 m2 m3 m4 g0 g1 g2 g3 g4
    have hb := HB.out
    have haft := HAFT.out
    go_loop [15] (fun z => ∃ k : Nat, n ≤ k ∧ k < t.length ∧ z = .int .i64 k) (fun z => (intOf z).toNat)
    case atStart => exact ⟨t.length - 1, by omega, by omega, by go_num⟩
    case round =>
      obtain ⟨k, hk0, hk1, rfl⟩ := hrel
      have hx : (⟨t.toArray⟩ : ByteArray)[k]'(by simpa [ByteArray.size] using hk1) = t[k] := rfl
      by_cases hkn : k = n
      · subst hkn
        have hx2 : t[k] = 32 := hb
        have hxj : (⟨t.toArray⟩ : ByteArray)[j]'(by simpa [ByteArray.size] using hj) = t[j] := rfl
        rw [hx2] at hx
        by_cases hq : t[j] = x
        · rw [hq] at hxj
          clear hx2 hb hq hc
          go_wp2
          go_ret
          exact ⟨rfl, hvs⟩
        · have hq2 : ¬ ((t[j].toNat : Int) = (x.toNat : Int)) := fun e => hq (UInt8.toNat_inj.1 (by omega))
          by_cases hjk : j = k
          · clear hc haft
            subst hjk
            rw [hx2] at hq2
            clear hxj hx2 hb hq
            go_wp2
            go_ret
            exact ⟨rfl, hvs⟩
          · obtain ⟨hc1, rfl⟩ : k < j ∧ x = 32 := by rcases hc with h | h | h; exact absurd h hq; exact absurd h hjk; exact h
            clear hx2 hb hq hc
            generalize t[j] = y at *
            go_wp2
            go_ret
            exact ⟨rfl, hvs⟩
      · have hx2 := haft k hk1 (by omega)
        have hx3 : ¬ ((t[k].toNat : Int) = 32) := fun e => hx2 (UInt8.toNat_inj.1 (by simp; omega))
        generalize t[k] = y at *
        go_wp2
        go_round
        case rel => exact ⟨k - 1, by omega, by omega, by go_num⟩
        case measure => simp [intOf]; omega

set_option maxRecDepth 400000 in
set_option maxHeartbeats 3200000 in
theorem back_change (ea : Nat → Addr) (f1 f2 f3 f4 f5 : Int) (s : List UInt8) (i : Int) (x : UInt8) (w : World) (hg : Glob w ea [1, 2, 3, 4, 8]) (hT : TxtEnv w) (hs : ¬ 150 < s.length) (t : List UInt8) (n j : Nat) (hE : frameE ⟨f1, f2, f3, f4, f5⟩ = 0) (hmt : makeF ⟨f1, f2, f3, f4, f5⟩ = t) (hml : t.length ≤ 95) (hmk : frameF t = (0, ⟨f1, f2, f3, f4, f5⟩)) (hnt : n < t.length) (hn0 : 0 < n) (hb : t[n] = 32) (haft : ∀ k (hk : k < t.length), n < k → t[k] ≠ 32) (hij : i = (j : Int)) (hj : j < t.length) (hq : t[j] ≠ x) (hjn : j ≠ n) (hgt : n < j → x ≠ 32) (hch : (frameF (t.set j x)).1 ≠ 0) :
    Calls Tryd.prog 8 #[.agg #[.int .i64 f1, .int .i64 f2, .int .i64 f3, .int .i64 f4, .int .i64 f5], .string ⟨s.toArray⟩, .int .i64 i, .int .u8 (x.toNat : Int)] w fun e w' => e = .returned (.bool true) ∧ Below w.heap.size w w' := by
  have hb0 : Below w.heap.size w (w.alloc (.cells #[.int .i64 f1, .int .i64 f2, .int .i64 f3, .int .i64 f4, .int .i64 f5] 64)) := (Below.refl _ _).alloc (Nat.le_refl _) _
  have KF := Lib.hid (fun (W : World) (h : Below w.heap.size w W) => framed_any ea W (hg.below h) (hT.below h))
  have K1 := Lib.hid (fun (W : World) (h : Below w.heap.size w W) => fread_any ea s W (hg.below h) (hT.below h) (by omega))
  have KM := Lib.hid (fun (W : World) (h : Below w.heap.size w W) => make_any ea f1 f2 f3 f4 f5 W ((hg.below h).sub (by simp)) (hT.below h))
  have KT := Lib.hid (fun (W : World) (h : Below w.heap.size w W) => fread_any ea t W (hg.below h) (hT.below h) (by omega))
  rw [hmk] at KT
  rw [hmt, hE] at KM
  simp only [errV_zero, Frm.arr] at KM KT
  have HB := Lib.hid hb
  have HAFT := Lib.hid haft
  clear hmt hmk hE hb haft
  subst hij
  have KD := Lib.hid (fun (W : World) (h : Below w.heap.size w W) => fread_any ea (t.set j x) W (hg.below h) (hT.below h) (by rw [List.length_set]; omega))
  have hz := frameF_err hch
  rw [hz, errV_pos ea hch] at KD
  simp only [Frm0, Frm.arr] at KD
  generalize ea (frameF (t.set j x)).1 = pe at *
  clear hz hch
  have HQ := Lib.hid hq
  have HJN := Lib.hid hjn
  have HGT := Lib.hid hgt
  clear hq hgt hjn
  by_cases h0 : (frameF s).1 = 0
  · obtain ⟨hE, hTs⟩ := read_make h0
    rw [h0] at K1
    generalize (frameF s).2 = r at *
    obtain ⟨r1, r2, r3, r4, r5⟩ := r
    have KR := Lib.hid (fun (W : World) (h : Below w.heap.size w W) => make_any ea r1 r2 r3 r4 r5 W ((hg.below h).sub (by simp)) (hT.below h))
    rw [makeF, if_pos hE, hE, hTs] at KR
    simp only [Frm.arr, errV_zero] at K1 KR
    clear h0 hE hTs hg hT
    go_enter Tryd.func8, Tryd.ntmps8
    go_wp2_with fail
    refine (KF.out _ hb0).mono ?_
    rintro e0 w0 ⟨he0, hb1⟩
    subst he0
    have hv0 := hb0.trans (hb1.mono hb0.size)
    have F0 := (five_new w f1 f2 f3 f4 f5).kept hb1
    have HF0 := Lib.hid F0
    clear F0 hb1
    go_wp2_with fail
    refine (K1.out _ hv0).mono ?_
    rintro e1 w1 ⟨he1, hb2⟩
    subst he1
    have hv1 := hv0.trans (hb2.mono hv0.size)
    have HF1 := Lib.hid (HF0.out.kept hb2)
    clear hb2 HF0 K1
    go_wp2_with fail
    have hv2 : Below w.heap.size w (w1.alloc (.cells #[.int .i64 r1, .int .i64 r2, .int .i64 r3, .int .i64 r4, .int .i64 r5] 64)) := hv1.alloc hv1.size _
    have HF2 := Lib.hid (HF1.out.kept ((Below.refl w1.heap.size w1).alloc (Nat.le_refl _) (.cells #[.int .i64 r1, .int .i64 r2, .int .i64 r3, .int .i64 r4, .int .i64 r5] 64)))
    have HR2 := Lib.hid (five_new w1 r1 r2 r3 r4 r5)
    refine (KR.out _ hv2).mono ?_
    rintro e2 w2 ⟨he2, hb3⟩
    subst he2
    have hv := hv2.trans (hb3.mono hv2.size)
    have HF := Lib.hid (HF2.out.kept hb3)
    have HR := Lib.hid (HR2.out.kept hb3)
    have hlt : w.heap.size < w1.heap.size := HF1.out.lt
    obtain ⟨k0, k1, k2, k3, k4, _, _, _, _, _⟩ := HF.out.cells
    generalize w1.heap.size = b10 at *
    clear hb3 HF2 HR2 hv2 HF1 hv1 hv0 KR KF hb0
    go_wp2_with fail
    refine (KM.out _ hv).mono ?_
    rintro e3 w3 ⟨he3, hb4⟩
    subst he3
    have hve := hv.trans (hb4.mono hv.size)
    have HF := Lib.hid (HF.out.kept hb4)
    have HR := Lib.hid (HR.out.kept hb4)
    clear k0 k1 k2 k3 k4 hb4 hv KM
    go_wp2_with fail
    refine (KT.out _ hve).mono ?_
    rintro e4 w4 ⟨he4, hb5⟩
    subst he4
    have hvf := hve.trans (hb5.mono hve.size)
    obtain ⟨k0, k1, k2, k3, k4, _, _, _, _, _⟩ := (HF.out.kept hb5).cells
    have HRK := HR
    obtain ⟨m0, m1, m2, m3, m4, g0, g1, g2, g3, g4⟩ := (HR.out.kept hb5).cells
    clear hve HF HR KT
    have HR4 := Lib.hid ((HRK.out).kept hb5)
    clear HRK hb5
    go_wp2
    have hvs : Below w.heap.size w (((((w4.setCell ⟨b10, 0, none⟩ (.int .i64 f1)).setCell ⟨b10, 1, none⟩ (.int .i64 f2)).setCell ⟨b10, 2, none⟩ (.int .i64 f3)).setCell ⟨b10, 3, none⟩ (.int .i64 f4)).setCell ⟨b10, 4, none⟩ (.int .i64 f5)) := ((((hvf.setCell (p := ⟨b10, 0, none⟩) (Nat.le_of_lt hlt) _).setCell (p := ⟨b10, 1, none⟩) (Nat.le_of_lt hlt) _).setCell (p := ⟨b10, 2, none⟩) (Nat.le_of_lt hlt) _).setCell (p := ⟨b10, 3, none⟩) (Nat.le_of_lt hlt) _).setCell (p := ⟨b10, 4, none⟩) (Nat.le_of_lt hlt) _
    have HR5 := Lib.hid (Five.set5 HR4.out f1 f2 f3 f4 f5)
    clear HR4 hvf
    generalize (((((w4.setCell ⟨b10, 0, none⟩ (.int .i64 f1)).setCell ⟨b10, 1, none⟩ (.int .i64 f2)).setCell ⟨b10, 2, none⟩ (.int .i64 f3)).setCell ⟨b10, 3, none⟩ (.int .i64 f4)).setCell ⟨b10, 4, none⟩ (.int .i64 f5)) = W5 at *
    clear k0 k1 k2 k3 k4 m0 m1 m2 m3 m4 g0 g1 g2 g3 g4
    have hb := HB.out
    have haft := HAFT.out
    go_loop [15] (fun z => ∃ k : Nat, n ≤ k ∧ k < t.length ∧ z = .int .i64 k) (fun z => (intOf z).toNat)
    case atStart => exact ⟨t.length - 1, by omega, by omega, by go_num⟩
    case round =>
      obtain ⟨k, hk0, hk1, rfl⟩ := hrel
      have hx : (⟨t.toArray⟩ : ByteArray)[k]'(by simpa [ByteArray.size] using hk1) = t[k] := rfl
      by_cases hkn : k = n
      · subst hkn
        have hq := HQ.out
        have hgt := HGT.out
        have hjn := HJN.out
        have hx2 : t[k] = 32 := hb
        have hxj : (⟨t.toArray⟩ : ByteArray)[j]'(by simpa [ByteArray.size] using hj) = t[j] := rfl
        rw [hx2] at hx
        have hq2 : ¬ ((t[j].toNat : Int) = (x.toNat : Int)) := fun e => hq (UInt8.toNat_inj.1 (by omega))
        obtain ⟨cp, hcp⟩ : ∃ cp, cp = grownCap W5 t.length 0 5 := ⟨_, rfl⟩
        have hcv := run_bytes_of_string (P := Tryd.prog) W5 9 68 5 ⟨t.toArray⟩ Tryd.underlying9 Tryd.underlying68 Tryd.underlying5
        rw [show (⟨t.toArray⟩ : ByteArray).size = t.length from rfl, ← hcp] at hcv
        obtain ⟨W6, hW6⟩ : ∃ W6, W6 = W5.drew.alloc (.cells (bytesRow ⟨t.toArray⟩ cp) 5 ((bytesRow ⟨t.toArray⟩ cp).size, (bytesRow ⟨t.toArray⟩ cp).size + 1)) := ⟨_, rfl⟩
        rw [← hW6] at hcv
        have hblk : W6.heap[W5.heap.size]? = some (.cells (bytesRow ⟨t.toArray⟩ cp) 5 ((bytesRow ⟨t.toArray⟩ cp).size, (bytesRow ⟨t.toArray⟩ cp).size + 1)) := by rw [hW6]; exact World.alloc_heap_new W5.drew _
        have hc6 : ∀ m (hm : m < t.length), W6.cell? ⟨W5.heap.size, m, none⟩ = some (.int .u8 (t[m].toNat : Int)) := fun m hm => by
          simp [World.cell?, hblk, bytesRow, Array.getElem?_append, hm]
        have hrs : t.length ≤ (bytesRow ⟨t.toArray⟩ cp).size := by simp [bytesRow]
        have hf6 : W6.frozen? ⟨W5.heap.size, j, none⟩ = false := by simp [World.frozen?, hblk]; omega
        have hj6 := hc6 j hj
        have hv6 : Below w.heap.size w W6 := by rw [hW6]; exact hvs.drew.alloc (by simpa using hvs.size) _
        have hR6 : Five W6 b10 f1 f2 f3 f4 f5 := by rw [hW6]; exact HR5.out.kept ((Below.refl _ W5).drew.alloc (by simp) _)
        have hz6 : b10 < W5.heap.size := HR5.out.lt
        obtain ⟨W7, hW7⟩ : ∃ W7, W7 = W6.setCell ⟨W5.heap.size, j, none⟩ (.int .u8 (x.toNat : Int)) := ⟨_, rfl⟩
        have hc7 : ∀ m (hm : m < (t.set j x).length), W7.cell? ((⟨W5.heap.size, 0, none⟩ : Addr).add m) = some (.int .u8 ((t.set j x)[m].toNat : Int)) := fun m hm => by
          have hm' : m < t.length := by simpa using hm
          rw [show ((⟨W5.heap.size, 0, none⟩ : Addr).add m) = ⟨W5.heap.size, m, none⟩ by unfold Addr.add; split <;> simp_all, hW7]
          by_cases hmj : m = j
          · subst hmj
            rw [World.cell?_setCell_same _ _ _ hj6]
            simp
          · rw [World.cell?_setCell_other _ _ _ _ (fun e => hmj (congrArg Addr.off e).symm), hc6 m hm']
            rw [List.getElem_set_ne (fun e => hmj e.symm)]
        have hcb := run_convert_bytes_back (P := Tryd.prog) W7 68 9 5 ⟨W5.heap.size, 0, none⟩ cp (t.set j x) Tryd.underlying68 Tryd.underlying5 Tryd.underlying9 hc7
        rw [List.length_set] at hcb
        have hv7 : Below w.heap.size w W7 := by rw [hW7]; exact hv6.setCell (p := ⟨W5.heap.size, j, none⟩) hvs.size _
        have hR7 : Five W7 b10 f1 f2 f3 f4 f5 := by
          unfold Five at hR6 ⊢
          rw [hW7, Below.heap_setCell _ _ _ _ (by simp; omega)]
          exact hR6
        subst hW7
        have HR7 := Lib.hid hR7
        have HV7 := Lib.hid hv7
        have hx7 : k < j → ¬ ((x.toNat : Int) = 32) := fun h e => hgt h (UInt8.toNat_inj.1 (by simp; omega))
        have KD := Lib.hid (KD.out _ hv7)
        clear hgt
        generalize t[j] = y at *
        clear hW6 hx2 hb hq hR6 hR7 hrs hblk hcp hc7 hc6 hv6 hv7 hvs HR5 hz6 HB HAFT HQ HJN HGT
        have q1 : ((y.toNat : Int) == (x.toNat : Int)) = false := beq_eq_false_iff_ne.2 hq2
        have q2 : ((j : Int) == (k : Int)) = false := beq_eq_false_iff_ne.2 (by omega)
        by_cases hkj : k < j
        · have q3 : ((x.toNat : Int) == 32) = false := beq_eq_false_iff_ne.2 (hx7 hkj)
          clear hx7
          go_wp2_with fail
          refine KD.out.mono ?_
          rintro e6 w6 ⟨he6, hb6⟩
          subst he6
          have hvf := HV7.out.trans (hb6.mono HV7.out.size)
          obtain ⟨m0, m1, m2, m3, m4, g0, g1, g2, g3, g4⟩ := (HR7.out.kept hb6).cells
          clear HR7 HV7 hb6 KD hcv hcb hf6 hj6
          go_wp2
          go_ret
          exact ⟨rfl, ((((hvf.setCell (p := ⟨b10, 0, none⟩) (Nat.le_of_lt hlt) _).setCell (p := ⟨b10, 1, none⟩) (Nat.le_of_lt hlt) _).setCell (p := ⟨b10, 2, none⟩) (Nat.le_of_lt hlt) _).setCell (p := ⟨b10, 3, none⟩) (Nat.le_of_lt hlt) _).setCell (p := ⟨b10, 4, none⟩) (Nat.le_of_lt hlt) _⟩
        · clear hx7
          go_wp2_with fail
          refine KD.out.mono ?_
          rintro e6 w6 ⟨he6, hb6⟩
          subst he6
          have hvf := HV7.out.trans (hb6.mono HV7.out.size)
          obtain ⟨m0, m1, m2, m3, m4, g0, g1, g2, g3, g4⟩ := (HR7.out.kept hb6).cells
          clear HR7 HV7 hb6 KD hcv hcb hf6 hj6
          go_wp2
          go_ret
          exact ⟨rfl, ((((hvf.setCell (p := ⟨b10, 0, none⟩) (Nat.le_of_lt hlt) _).setCell (p := ⟨b10, 1, none⟩) (Nat.le_of_lt hlt) _).setCell (p := ⟨b10, 2, none⟩) (Nat.le_of_lt hlt) _).setCell (p := ⟨b10, 3, none⟩) (Nat.le_of_lt hlt) _).setCell (p := ⟨b10, 4, none⟩) (Nat.le_of_lt hlt) _⟩
      · have hx2 := haft k hk1 (by omega)
        have hx3 : ¬ ((t[k].toNat : Int) = 32) := fun e => hx2 (UInt8.toNat_inj.1 (by simp; omega))
        generalize t[k] = y at *
        go_wp2
        go_round
        case rel => exact ⟨k - 1, by omega, by omega, by go_num⟩
        case measure => simp [intOf]; omega
  · have HE := Lib.hid (errV_pos ea h0)
    have hz := frameF_err h0
    rw [HE.out, hz] at K1
    simp only [Frm0, Frm.arr] at K1
    clear h0 hz hg hT
    go_enter Tryd.func8, Tryd.ntmps8
    go_wp2_with fail
    refine (KF.out _ hb0).mono ?_
    rintro e0 w0 ⟨he0, hb1⟩
    subst he0
    have hv0 := hb0.trans (hb1.mono hb0.size)
    have F0 := (five_new w f1 f2 f3 f4 f5).kept hb1
    have HF0 := Lib.hid F0
    clear F0 hb1
    go_wp2_with fail
    refine (K1.out _ hv0).mono ?_
    rintro e1 w1 ⟨he1, hb2⟩
    subst he1
    have hv1 := hv0.trans (hb2.mono hv0.size)
    have HF1 := Lib.hid (HF0.out.kept hb2)
    clear hb2 HF0 K1
    have hv : Below w.heap.size w (w1.alloc (.cells #[.int .i64 0, .int .i64 0, .int .i64 0, .int .i64 0, .int .i64 0] 64)) := hv1.alloc hv1.size _
    have HF := Lib.hid (HF1.out.kept ((Below.refl w1.heap.size w1).alloc (Nat.le_refl _) (.cells #[.int .i64 0, .int .i64 0, .int .i64 0, .int .i64 0, .int .i64 0] 64)))
    have HR := Lib.hid (five_new w1 0 0 0 0 0)
    have hlt : w.heap.size < w1.heap.size := HF1.out.lt
    obtain ⟨k0, k1, k2, k3, k4, _, _, _, _, _⟩ := HF.out.cells
    clear HF1 hv0 KF hb0
    go_wp2_with fail
    generalize (w1.alloc (.cells #[.int .i64 0, .int .i64 0, .int .i64 0, .int .i64 0, .int .i64 0] 64)) = w2 at *
    generalize w1.heap.size = b10 at *
    refine (KM.out _ hv).mono ?_
    rintro e3 w3 ⟨he3, hb4⟩
    subst he3
    have hve := hv.trans (hb4.mono hv.size)
    have HF := Lib.hid (HF.out.kept hb4)
    have HR := Lib.hid (HR.out.kept hb4)
    clear k0 k1 k2 k3 k4 hb4 hv KM
    go_wp2_with fail
    refine (KT.out _ hve).mono ?_
    rintro e4 w4 ⟨he4, hb5⟩
    subst he4
    have hvf := hve.trans (hb5.mono hve.size)
    obtain ⟨k0, k1, k2, k3, k4, _, _, _, _, _⟩ := (HF.out.kept hb5).cells
    have HRK := HR
    obtain ⟨m0, m1, m2, m3, m4, g0, g1, g2, g3, g4⟩ := (HR.out.kept hb5).cells
    clear hve HF HR KT
    have HR4 := Lib.hid ((HRK.out).kept hb5)
    clear HRK hb5
    go_wp2
    have hvs : Below w.heap.size w (((((w4.setCell ⟨b10, 0, none⟩ (.int .i64 f1)).setCell ⟨b10, 1, none⟩ (.int .i64 f2)).setCell ⟨b10, 2, none⟩ (.int .i64 f3)).setCell ⟨b10, 3, none⟩ (.int .i64 f4)).setCell ⟨b10, 4, none⟩ (.int .i64 f5)) := ((((hvf.setCell (p := ⟨b10, 0, none⟩) (Nat.le_of_lt hlt) _).setCell (p := ⟨b10, 1, none⟩) (Nat.le_of_lt hlt) _).setCell (p := ⟨b10, 2, none⟩) (Nat.le_of_lt hlt) _).setCell (p := ⟨b10, 3, none⟩) (Nat.le_of_lt hlt) _).setCell (p := ⟨b10, 4, none⟩) (Nat.le_of_lt hlt) _
    have HR5 := Lib.hid (Five.set5 HR4.out f1 f2 f3 f4 f5)
    clear HR4 hvf
    generalize (((((w4.setCell ⟨b10, 0, none⟩ (.int .i64 f1)).setCell ⟨b10, 1, none⟩ (.int .i64 f2)).setCell ⟨b10, 2, none⟩ (.int .i64 f3)).setCell ⟨b10, 3, none⟩ (.int .i64 f4)).setCell ⟨b10, 4, none⟩ (.int .i64 f5)) = W5 at *
    clear k0 k1 k2 k3 k4 m0 m1 m2 m3 m4 g0 g1 g2 g3 g4
    have hb := HB.out
    have haft := HAFT.out
    go_loop [15] (fun z => ∃ k : Nat, n ≤ k ∧ k < t.length ∧ z = .int .i64 k) (fun z => (intOf z).toNat)
    case atStart => exact ⟨t.length - 1, by omega, by omega, by go_num⟩
    case round =>
      obtain ⟨k, hk0, hk1, rfl⟩ := hrel
      have hx : (⟨t.toArray⟩ : ByteArray)[k]'(by simpa [ByteArray.size] using hk1) = t[k] := rfl
      by_cases hkn : k = n
      · subst hkn
        have hq := HQ.out
        have hgt := HGT.out
        have hjn := HJN.out
        have hx2 : t[k] = 32 := hb
        have hxj : (⟨t.toArray⟩ : ByteArray)[j]'(by simpa [ByteArray.size] using hj) = t[j] := rfl
        rw [hx2] at hx
        have hq2 : ¬ ((t[j].toNat : Int) = (x.toNat : Int)) := fun e => hq (UInt8.toNat_inj.1 (by omega))
        obtain ⟨cp, hcp⟩ : ∃ cp, cp = grownCap W5 t.length 0 5 := ⟨_, rfl⟩
        have hcv := run_bytes_of_string (P := Tryd.prog) W5 9 68 5 ⟨t.toArray⟩ Tryd.underlying9 Tryd.underlying68 Tryd.underlying5
        rw [show (⟨t.toArray⟩ : ByteArray).size = t.length from rfl, ← hcp] at hcv
        obtain ⟨W6, hW6⟩ : ∃ W6, W6 = W5.drew.alloc (.cells (bytesRow ⟨t.toArray⟩ cp) 5 ((bytesRow ⟨t.toArray⟩ cp).size, (bytesRow ⟨t.toArray⟩ cp).size + 1)) := ⟨_, rfl⟩
        rw [← hW6] at hcv
        have hblk : W6.heap[W5.heap.size]? = some (.cells (bytesRow ⟨t.toArray⟩ cp) 5 ((bytesRow ⟨t.toArray⟩ cp).size, (bytesRow ⟨t.toArray⟩ cp).size + 1)) := by rw [hW6]; exact World.alloc_heap_new W5.drew _
        have hc6 : ∀ m (hm : m < t.length), W6.cell? ⟨W5.heap.size, m, none⟩ = some (.int .u8 (t[m].toNat : Int)) := fun m hm => by
          simp [World.cell?, hblk, bytesRow, Array.getElem?_append, hm]
        have hrs : t.length ≤ (bytesRow ⟨t.toArray⟩ cp).size := by simp [bytesRow]
        have hf6 : W6.frozen? ⟨W5.heap.size, j, none⟩ = false := by simp [World.frozen?, hblk]; omega
        have hj6 := hc6 j hj
        have hv6 : Below w.heap.size w W6 := by rw [hW6]; exact hvs.drew.alloc (by simpa using hvs.size) _
        have hR6 : Five W6 b10 f1 f2 f3 f4 f5 := by rw [hW6]; exact HR5.out.kept ((Below.refl _ W5).drew.alloc (by simp) _)
        have hz6 : b10 < W5.heap.size := HR5.out.lt
        obtain ⟨W7, hW7⟩ : ∃ W7, W7 = W6.setCell ⟨W5.heap.size, j, none⟩ (.int .u8 (x.toNat : Int)) := ⟨_, rfl⟩
        have hc7 : ∀ m (hm : m < (t.set j x).length), W7.cell? ((⟨W5.heap.size, 0, none⟩ : Addr).add m) = some (.int .u8 ((t.set j x)[m].toNat : Int)) := fun m hm => by
          have hm' : m < t.length := by simpa using hm
          rw [show ((⟨W5.heap.size, 0, none⟩ : Addr).add m) = ⟨W5.heap.size, m, none⟩ by unfold Addr.add; split <;> simp_all, hW7]
          by_cases hmj : m = j
          · subst hmj
            rw [World.cell?_setCell_same _ _ _ hj6]
            simp
          · rw [World.cell?_setCell_other _ _ _ _ (fun e => hmj (congrArg Addr.off e).symm), hc6 m hm']
            rw [List.getElem_set_ne (fun e => hmj e.symm)]
        have hcb := run_convert_bytes_back (P := Tryd.prog) W7 68 9 5 ⟨W5.heap.size, 0, none⟩ cp (t.set j x) Tryd.underlying68 Tryd.underlying5 Tryd.underlying9 hc7
        rw [List.length_set] at hcb
        have hv7 : Below w.heap.size w W7 := by rw [hW7]; exact hv6.setCell (p := ⟨W5.heap.size, j, none⟩) hvs.size _
        have hR7 : Five W7 b10 f1 f2 f3 f4 f5 := by
          unfold Five at hR6 ⊢
          rw [hW7, Below.heap_setCell _ _ _ _ (by simp; omega)]
          exact hR6
        subst hW7
        have HR7 := Lib.hid hR7
        have HV7 := Lib.hid hv7
        have hx7 : k < j → ¬ ((x.toNat : Int) = 32) := fun h e => hgt h (UInt8.toNat_inj.1 (by simp; omega))
        have KD := Lib.hid (KD.out _ hv7)
        clear hgt
        generalize t[j] = y at *
        clear hW6 hx2 hb hq hR6 hR7 hrs hblk hcp hc7 hc6 hv6 hv7 hvs HR5 hz6 HB HAFT HQ HJN HGT
        have q1 : ((y.toNat : Int) == (x.toNat : Int)) = false := beq_eq_false_iff_ne.2 hq2
        have q2 : ((j : Int) == (k : Int)) = false := beq_eq_false_iff_ne.2 (by omega)
        by_cases hkj : k < j
        · have q3 : ((x.toNat : Int) == 32) = false := beq_eq_false_iff_ne.2 (hx7 hkj)
          clear hx7
          go_wp2_with fail
          refine KD.out.mono ?_
          rintro e6 w6 ⟨he6, hb6⟩
          subst he6
          have hvf := HV7.out.trans (hb6.mono HV7.out.size)
          obtain ⟨m0, m1, m2, m3, m4, g0, g1, g2, g3, g4⟩ := (HR7.out.kept hb6).cells
          clear HR7 HV7 hb6 KD hcv hcb hf6 hj6
          go_wp2
          go_ret
          exact ⟨rfl, ((((hvf.setCell (p := ⟨b10, 0, none⟩) (Nat.le_of_lt hlt) _).setCell (p := ⟨b10, 1, none⟩) (Nat.le_of_lt hlt) _).setCell (p := ⟨b10, 2, none⟩) (Nat.le_of_lt hlt) _).setCell (p := ⟨b10, 3, none⟩) (Nat.le_of_lt hlt) _).setCell (p := ⟨b10, 4, none⟩) (Nat.le_of_lt hlt) _⟩
        · clear hx7
          go_wp2_with fail
          refine KD.out.mono ?_
          rintro e6 w6 ⟨he6, hb6⟩
          subst he6
          have hvf := HV7.out.trans (hb6.mono HV7.out.size)
          obtain ⟨m0, m1, m2, m3, m4, g0, g1, g2, g3, g4⟩ := (HR7.out.kept hb6).cells
          clear HR7 HV7 hb6 KD hcv hcb hf6 hj6
          go_wp2
          go_ret
          exact ⟨rfl, ((((hvf.setCell (p := ⟨b10, 0, none⟩) (Nat.le_of_lt hlt) _).setCell (p := ⟨b10, 1, none⟩) (Nat.le_of_lt hlt) _).setCell (p := ⟨b10, 2, none⟩) (Nat.le_of_lt hlt) _).setCell (p := ⟨b10, 3, none⟩) (Nat.le_of_lt hlt) _).setCell (p := ⟨b10, 4, none⟩) (Nat.le_of_lt hlt) _⟩
      · have hx2 := haft k hk1 (by omega)
        have hx3 : ¬ ((t[k].toNat : Int) = 32) := fun e => hx2 (UInt8.toNat_inj.1 (by simp; omega))
        generalize t[k] = y at *
        go_wp2
        go_round
        case rel => exact ⟨k - 1, by omega, by omega, by go_num⟩
        case measure => simp [intOf]; omega

theorem walk_FrameBack (ea : Nat → Addr) (f1 f2 f3 f4 f5 : Int) (s : List UInt8) (i x : Int) (w : World) (hg : Glob w ea [1, 2, 3, 4, 8]) (hT : TxtEnv w)
    (_hf : (-9223372036854775808 ≤ f1 ∧ f1 ≤ 9223372036854775807) ∧ (-9223372036854775808 ≤ f2 ∧ f2 ≤ 9223372036854775807) ∧ (-9223372036854775808 ≤ f3 ∧ f3 ≤ 9223372036854775807) ∧ (-9223372036854775808 ≤ f4 ∧ f4 ≤ 9223372036854775807) ∧ (-9223372036854775808 ≤ f5 ∧ f5 ≤ 9223372036854775807))
    (_hs : s.length ≤ maxLen) (_hi : -9223372036854775808 ≤ i ∧ i ≤ 9223372036854775807) (hx : 0 ≤ x ∧ x ≤ 255) :
    Calls Tryd.prog 8 #[.agg #[.int .i64 f1, .int .i64 f2, .int .i64 f3, .int .i64 f4, .int .i64 f5], .string ⟨s.toArray⟩, .int .i64 i, .int .u8 x] w fun e w' => e = .returned (.bool true) ∧ Below w.heap.size w w' := by
  obtain ⟨b, rfl⟩ : ∃ b : UInt8, x = (b.toNat : Int) := ⟨UInt8.ofNat x.toNat, by rw [UInt8.toNat_ofNat']; omega⟩
  by_cases hs : 150 < s.length
  · exact back_long ea f1 f2 f3 f4 f5 s i b w hg hT hs
  by_cases hE : frameE ⟨f1, f2, f3, f4, f5⟩ = 0
  · by_cases hi : i < 0
    · exact back_neg ea f1 f2 f3 f4 f5 s i b w hg hT hs hE hi
    obtain ⟨j, rfl⟩ : ∃ j : Nat, i = (j : Int) := ⟨i.toNat, by omega⟩
    by_cases hj : j < (frameT ⟨f1, f2, f3, f4, f5⟩).length
    · have hln : (frameT ⟨f1, f2, f3, f4, f5⟩).length = (frameBody ⟨f1, f2, f3, f4, f5⟩).length + 1 + (Lib.itoa ((sumF (frameBody ⟨f1, f2, f3, f4, f5⟩) : Nat) : Int)).length := by rw [frameT, List.length_append, List.length_cons]; omega
      have hb : (frameT ⟨f1, f2, f3, f4, f5⟩)[(frameBody ⟨f1, f2, f3, f4, f5⟩).length]'(by omega) = 32 := by simp [frameT]
      have hn0 : 0 < (frameBody ⟨f1, f2, f3, f4, f5⟩).length := by simp only [frameBody, frameW, joinL, List.length_append, List.length_cons]; omega
      have haft := frameT_after ⟨f1, f2, f3, f4, f5⟩
      have hmt : makeF ⟨f1, f2, f3, f4, f5⟩ = frameT ⟨f1, f2, f3, f4, f5⟩ := by rw [makeF, if_pos hE]
      by_cases hc : (frameT ⟨f1, f2, f3, f4, f5⟩)[j] = b ∨ j = (frameBody ⟨f1, f2, f3, f4, f5⟩).length ∨ (frameBody ⟨f1, f2, f3, f4, f5⟩).length < j ∧ b = 32
      · exact back_same ea f1 f2 f3 f4 f5 s j b w hg hT hs (frameT ⟨f1, f2, f3, f4, f5⟩) (frameBody ⟨f1, f2, f3, f4, f5⟩).length j hE hmt (frameT_short hE) (make_read hE) (by omega) hn0 hb haft rfl hj hc
      · have h1 : (frameT ⟨f1, f2, f3, f4, f5⟩)[j] ≠ b := fun e => hc (Or.inl e)
        have h2 : j ≠ (frameBody ⟨f1, f2, f3, f4, f5⟩).length := fun e => hc (Or.inr (Or.inl e))
        have h3 : (frameBody ⟨f1, f2, f3, f4, f5⟩).length < j → b ≠ 32 := fun h e => hc (Or.inr (Or.inr ⟨h, e⟩))
        exact back_change ea f1 f2 f3 f4 f5 s j b w hg hT hs (frameT ⟨f1, f2, f3, f4, f5⟩) (frameBody ⟨f1, f2, f3, f4, f5⟩).length j hE hmt (frameT_short hE) (make_read hE) (by omega) hn0 hb haft rfl hj h1 h2 h3 (change_none j b hj h1 h2 h3)
    · exact back_far ea f1 f2 f3 f4 f5 s j b w hg hT hs hE j rfl (by omega)
  · exact back_bad ea f1 f2 f3 f4 f5 s i b w hg hT hs hE
end Go.Proofs.YtlpgafpmhihneaaDoor
