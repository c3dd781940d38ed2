/- FrameTells: the law's walk. -/
import Derived.Test.YtbfocagicagehaaGreatDoorRefReadF
import Derived.Test.YtbfocagicagehaaGreatDoorFrameFact
import Derived.Test.YtbfocagicagehaaGreatDoorCoded
namespace Go.Proofs.YtbfocagicagehaaGreatDoor
open Go.RowKit

theorem run_frame_same (W : World) (a b c d e : Int) : (binOp .eql 67 (.agg #[.int .i64 a, .int .i64 b, .int .i64 c, .int .i64 d, .int .i64 e]) (.agg #[.int .i64 a, .int .i64 b, .int .i64 c, .int .i64 d, .int .i64 e])).run Tryz.prog W = .ok (.bool true) W := by
  go_simp
theorem frameE_le (f : Frm) : frameE f ≤ 11 := by unfold frameE; repeat (first | omega | split)
theorem readW_le (w0 w1 w2 w3 w4 w5 w6 : List UInt8) : (readW w0 w1 w2 w3 w4 w5 w6).1 ≤ 11 := by
  have h := frameE_le (frmOf w1 w2 w3 w4 w5)
  unfold readW
  split
  · split
    · split
      · split
        · exact Nat.zero_le _
        · exact h
      · show 8 ≤ 11; omega
    · show 1 ≤ 11; omega
  · show 1 ≤ 11; omega
theorem frameF_le (s : List UInt8) : (frameF s).1 ≤ 11 := by
  unfold frameF
  split
  · show 2 ≤ 11; omega
  · unfold readL
    split
    · exact readW_le _ _ _ _ _ _ _
    · show 1 ≤ 11; omega
theorem coded1_sm (ea : Nat → Addr) (code : Nat) (w : World) (hG : GlobC w ea) (h11 : code ≤ 11) :
    Calls Tryz.prog 24 #[errV ea code, .int .i64 code] w fun e w' => e = .returned (.bool true) ∧ Below w.heap.size w w' :=
  coded1_yes ea (errV ea code) code code w hG (ErrIs.bare ea w code) h11 rfl

set_option maxRecDepth 400000 in
set_option maxHeartbeats 3200000 in
theorem frameTells_law (ea : Nat → Addr) (f1 f2 f3 f4 f5 : Int) (s : List UInt8) (w : World) (hG : GlobC w ea) (hT : TxtEnv w) (hs : s.length ≤ 150) :
    Calls Tryz.prog 5 #[.agg #[.int .i64 f1, .int .i64 f2, .int .i64 f3, .int .i64 f4, .int .i64 f5], .string ⟨s.toArray⟩] w fun e w' => e = .returned (.bool true) ∧ Below w.heap.size w w' := by
  have hb0 : Below w.heap.size w (w.alloc (.cells #[.int .i64 f1, .int .i64 f2, .int .i64 f3, .int .i64 f4, .int .i64 f5] 67)) := (Below.refl _ _).alloc (Nat.le_refl _) _
  have b0 := Blok.new w 67 #[.int .i64 f1, .int .i64 f2, .int .i64 f3, .int .i64 f4, .int .i64 f5]
  have K0 := Lib.hid (framed_any ea _ ((hG.below hb0).glob.sub (by simp)) (hT.below hb0))
  have KM := Lib.hid (fun (W : World) (hb : Below w.heap.size w W) => make_any ea f1 f2 f3 f4 f5 W ((hG.below hb).glob.sub (by simp)) (hT.below hb))
  have RM := Lib.hid (fun (W : World) => frameText_any f1 f2 f3 f4 f5 W)
  have KK := Lib.hid (fun (W : World) (hb : Below w.heap.size w W) => frameCheck_any ea f1 f2 f3 f4 f5 W ((hG.below hb).glob.sub (by simp)))
  have RK := Lib.hid (fun (W : World) => frameError_any f1 f2 f3 f4 f5 W)
  have KS := Lib.hid (fun (W : World) => sum_any s W (by omega))
  have RS := Lib.hid (fun (W : World) => sumOf_any s W (by omega))
  have KR := Lib.hid (fun (W : World) (hb : Below w.heap.size w W) => fread_any ea s W ((hG.below hb).glob.sub (by simp)) (hT.below hb) (by omega))
  have RR := Lib.hid (fun (W : World) => readFrame_any s W (by omega))
  have C1 := Lib.hid (fun (W : World) (hb : Below w.heap.size w W) => coded1_sm ea (frameE ⟨f1, f2, f3, f4, f5⟩) W (hG.below hb) (frameE_le _))
  have C2 := Lib.hid (fun (W : World) (hb : Below w.heap.size w W) => coded1_sm ea (frameF s).1 W (hG.below hb) (frameF_le s))
  have hd : decide ((150 : Int) < (s.length : Int)) = false := by simp; omega
  have HEQ := run_frame_same
  simp only [Frm.arr] at KR RR
  generalize makeF ⟨f1, f2, f3, f4, f5⟩ = tx at *
  generalize errV ea (frameE ⟨f1, f2, f3, f4, f5⟩) = ev at *
  generalize (frameE ⟨f1, f2, f3, f4, f5⟩ : Int) = c at *
  generalize errV ea (frameF s).1 = ev2 at *
  generalize ((frameF s).1 : Int) = c2 at *
  generalize (frameF s).2.frm = x0 at *
  generalize (frameF s).2.mem = x1 at *
  generalize (frameF s).2.mode = x2 at *
  generalize (frameF s).2.slot = x3 at *
  generalize (frameF s).2.value = x4 at *
  generalize (sumF s : Int) = su at *
  clear hG hT
  go_enter Tryz.func5, Tryz.ntmps5
  go_wp2_with fail
  refine K0.out.mono ?_
  rintro e w1 ⟨rfl, hb1⟩
  have hv1 := hb0.trans (hb1.mono hb0.size)
  have b1 := b0.kept hb1
  have k0 := b1.cell 0 rfl
  have k1 := b1.cell 1 rfl
  have k2 := b1.cell 2 rfl
  have k3 := b1.cell 3 rfl
  have k4 := b1.cell 4 rfl
  go_wp2_with fail
  refine (KM.out _ hv1).mono ?_
  rintro e w2 ⟨rfl, hb2⟩
  have hv2 := hv1.trans (hb2.mono hv1.size)
  have b2 := b1.kept hb2
  have k0 := b2.cell 0 rfl
  have k1 := b2.cell 1 rfl
  have k2 := b2.cell 2 rfl
  have k3 := b2.cell 3 rfl
  have k4 := b2.cell 4 rfl
  go_wp2_with fail
  refine (RM.out _).mono ?_
  rintro e w3 ⟨rfl, hb3⟩
  have hv3 := (hv2.trans (hb3.mono hv2.size)).drew
  have b3 := (b2.kept hb3).kept (Below.refl _ _).drew
  have k0 := b3.cell 0 rfl
  have k1 := b3.cell 1 rfl
  have k2 := b3.cell 2 rfl
  have k3 := b3.cell 3 rfl
  have k4 := b3.cell 4 rfl
  have hz3 := b3.lt
  have A1 := Lib.hid (C1.out _ hv3)
  clear hb1 hb2 hb3 b0 b1 b2
  go_wp2
  go_region_held3 (fun w' => w'.cell? ⟨w.heap.size, 0, none⟩ = some (.int .i64 f1) ∧ w'.cell? ⟨w.heap.size, 1, none⟩ = some (.int .i64 f2) ∧ w'.cell? ⟨w.heap.size, 2, none⟩ = some (.int .i64 f3) ∧ w'.cell? ⟨w.heap.size, 3, none⟩ = some (.int .i64 f4) ∧ w'.cell? ⟨w.heap.size, 4, none⟩ = some (.int .i64 f5)) (go_keep)
    (first
      | (go_at_call 24; (with_reducible refine A1.out.mono ?_); rintro e w4 ⟨rfl, hb2⟩; have hv4 := hv3.trans (hb2.mono hv3.size); have b4 := b3.kept hb2; have k0 := b4.cell 0 rfl; have k1 := b4.cell 1 rfl; have k2 := b4.cell 2 rfl; have k3 := b4.cell 3 rfl; have k4 := b4.cell 4 rfl; have A2 := Lib.hid (KK.out w4 hv4); clear hb2)
      | (go_at_call 47; (with_reducible refine A2.out.mono ?_); rintro e w5 ⟨rfl, hb2⟩; have hv5 := hv4.trans (hb2.mono hv4.size); have b5 := b4.kept hb2; have k0 := b5.cell 0 rfl; have k1 := b5.cell 1 rfl; have k2 := b5.cell 2 rfl; have k3 := b5.cell 3 rfl; have k4 := b5.cell 4 rfl; have A3 := Lib.hid (RK.out w5); clear hb2)
      | (go_at_call 48; (with_reducible refine A3.out.mono ?_); rintro e w6 ⟨rfl, hb2⟩; have hv6 := hv5.trans (hb2.mono hv5.size); have b6 := b5.kept hb2; have k0 := b6.cell 0 rfl; have k1 := b6.cell 1 rfl; have k2 := b6.cell 2 rfl; have k3 := b6.cell 3 rfl; have k4 := b6.cell 4 rfl; have A4 := Lib.hid (C1.out w6 hv6); clear hb2)
      | (go_at_call 24; (with_reducible refine A4.out.mono ?_); rintro e w7 ⟨rfl, hb2⟩; have hv7 := hv6.trans (hb2.mono hv6.size); have b7 := b6.kept hb2; have k0 := b7.cell 0 rfl; have k1 := b7.cell 1 rfl; have k2 := b7.cell 2 rfl; have k3 := b7.cell 3 rfl; have k4 := b7.cell 4 rfl; have A5 := Lib.hid (KS.out w7); have A6 := Lib.hid (RS.out w7); clear hb2)
      | (go_at_call 49; (with_reducible refine A5.out.mono ?_); rintro e w8 ⟨rfl, rfl⟩)
      | (go_at_call 50; (with_reducible refine A6.out.mono ?_); rintro e w8 ⟨rfl, rfl⟩))
  clear k0 k1 k2 k3 k4
  go_wp2_with fail
  refine (KR.out _ hv7).mono ?_
  rintro e w9 ⟨rfl, hb9⟩
  have hv9 := hv7.trans (hb9.mono hv7.size)
  have hvA := hv9.alloc hv9.size (.cells #[.int .i64 x0, .int .i64 x1, .int .i64 x2, .int .i64 x3, .int .i64 x4] 67)
  have bA := Blok.new w9 67 #[.int .i64 x0, .int .i64 x1, .int .i64 x2, .int .i64 x3, .int .i64 x4]
  go_wp2_with fail
  refine (RR.out _).mono ?_
  rintro e wB ⟨rfl, hbB⟩
  have hvB := hvA.trans (hbB.mono hvA.size)
  have bB := (bA.kept hbB).alloc (.cells #[.int .i64 x0, .int .i64 x1, .int .i64 x2, .int .i64 x3, .int .i64 x4] 67)
  have bC := Blok.new wB 67 #[.int .i64 x0, .int .i64 x1, .int .i64 x2, .int .i64 x3, .int .i64 x4]
  have hvC := hvB.alloc hvB.size (.cells #[.int .i64 x0, .int .i64 x1, .int .i64 x2, .int .i64 x3, .int .i64 x4] 67)
  go_wp2_with fail
  refine (C2.out _ hvC).mono ?_
  rintro e wD ⟨rfl, hbD⟩
  have bB := bB.kept hbD
  have bC := bC.kept hbD
  have k0 := bB.cell 0 rfl
  have k1 := bB.cell 1 rfl
  have k2 := bB.cell 2 rfl
  have k3 := bB.cell 3 rfl
  have k4 := bB.cell 4 rfl
  have l0 := bC.cell 0 rfl
  have l1 := bC.cell 1 rfl
  have l2 := bC.cell 2 rfl
  have l3 := bC.cell 3 rfl
  have l4 := bC.cell 4 rfl
  go_wp2
  go_ret
  exact ⟨rfl, hvC.trans (hbD.mono hvC.size)⟩

theorem walk_FrameTells (ea : Nat → Addr) (f1 f2 f3 f4 f5 : Int) (s : List UInt8) (w : World) (hG : GlobC w ea) (hT : TxtEnv w)
    (_hf : (-9223372036854775808 ≤ f1 ∧ f1 ≤ 9223372036854775807) ∧ (-9223372036854775808 ≤ f2 ∧ f2 ≤ 9223372036854775807) ∧ (-9223372036854775808 ≤ f3 ∧ f3 ≤ 9223372036854775807) ∧ (-9223372036854775808 ≤ f4 ∧ f4 ≤ 9223372036854775807) ∧ (-9223372036854775808 ≤ f5 ∧ f5 ≤ 9223372036854775807)) (_hs : s.length ≤ maxLen) :
    Calls Tryz.prog 5 #[.agg #[.int .i64 f1, .int .i64 f2, .int .i64 f3, .int .i64 f4, .int .i64 f5], .string ⟨s.toArray⟩] w fun e w' => e = .returned (.bool true) ∧ Below w.heap.size w w' := by
  by_cases h : 150 < s.length
  · have hb0 : Below w.heap.size w (w.alloc (.cells #[.int .i64 f1, .int .i64 f2, .int .i64 f3, .int .i64 f4, .int .i64 f5] 67)) := (Below.refl _ _).alloc (Nat.le_refl _) _
    have K0 := Lib.hid (framed_any ea _ ((hG.below hb0).glob.sub (by simp)) (hT.below hb0))
    have hd : (150 : Int) < (s.length : Int) := by omega
    clear hG hT
    go_enter Tryz.func5, Tryz.ntmps5
    go_wp2_with fail
    refine K0.out.mono ?_
    rintro e w1 ⟨rfl, hb1⟩
    go_wp2
    go_ret
    exact ⟨rfl, hb0.trans (hb1.mono hb0.size)⟩
  · exact frameTells_law ea f1 f2 f3 f4 f5 s w hG hT (by omega)
end Go.Proofs.YtbfocagicagehaaGreatDoor
