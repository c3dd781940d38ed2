/- MemberSlot: the law's walk. -/
import Derived.Test.YtbfocagicagehaaDoorMemFact
import Derived.Test.YtbfocagicagehaaDoorRefHas
namespace Go.Proofs.YtbfocagicagehaaDoor
open Go.RowKit

theorem stepM_lt {l : List Int} {m d s : Int} (t : List UInt8) (h : (memRF l m d s).1 = 0) : stepM l m d s t < 65536 := by
  obtain ⟨hp, hv, _, _⟩ := memRF_ok h
  obtain ⟨hcm, _⟩ := viewE_zero hv
  have hm : m.toNat < 65536 := by simp only [crewB, decide_eq_true_eq] at hcm; omega
  have hnd : nodeB (whoV l s.toNat) = true := (planF_ok hp).2.2.2 _ (whoV_mem l _ (planF_ok hp).2.1)
  have hor : m.toNat ||| bitOf (whoV l s.toNat) < 65536 := Nat.or_lt_two_pow (n := 16) hm (bitOf_lt hnd)
  unfold stepM
  split
  · exact hor
  · exact lessN_lt hor
theorem hasB_nat {c : Nat} {n : Int} (hc : c < 65536) (hn : nodeB n = true) : hasB (c : Int) n = c.testBit (n.toNat - 1) := by
  have h1 : crewB (c : Int) = true := by simp only [crewB, decide_eq_true_eq]; omega
  rw [hasB, h1, hn]; rfl
theorem slot_who {l : List Int} {m d s : Int} (t : List UInt8) (h : (memRF l m d s).1 = 0) : hasB (stepM l m d s t : Int) (whoV l s.toNat) = stepOk l m d s t := by
  obtain ⟨hp, hv, _, _⟩ := memRF_ok h
  have hnd : nodeB (whoV l s.toNat) = true := (planF_ok hp).2.2.2 _ (whoV_mem l _ (planF_ok hp).2.1)
  rw [hasB_nat (stepM_lt t h) hnd, stepM]
  cases hok : stepOk l m d s t
  · rw [if_neg (by simp), lessN_bit, bitOf, Nat.testBit_two_pow]; simp
  · rw [if_pos rfl, Nat.testBit_or, bitOf, Nat.testBit_two_pow]; simp
theorem slot_other {l : List Int} {m d s : Int} (t : List UInt8) (h : (memRF l m d s).1 = 0) {n : Int} (hn : nodeB n = true) (hne : n ≠ whoV l s.toNat) : hasB (stepM l m d s t : Int) n = hasB m n := by
  obtain ⟨hp, hv, _, _⟩ := memRF_ok h
  obtain ⟨hcm, _⟩ := viewE_zero hv
  have hnd : nodeB (whoV l s.toNat) = true := (planF_ok hp).2.2.2 _ (whoV_mem l _ (planF_ok hp).2.1)
  have hm : m.toNat < 65536 := by simp only [crewB, decide_eq_true_eq] at hcm; omega
  have e : (m.toNat : Int) = m := by simp only [crewB, decide_eq_true_eq] at hcm; omega
  rw [hasB_nat (stepM_lt t h) hn, ← e, hasB_nat hm hn, e, stepM]
  have hbit : (bitOf (whoV l s.toNat)).testBit (n.toNat - 1) = false := by
    rw [bitOf, Nat.testBit_two_pow]
    simp only [nodeB, decide_eq_true_eq] at hn hnd
    simp only [decide_eq_false_iff_not]; omega
  split
  · rw [Nat.testBit_or, hbit, Bool.or_false]
  · rw [lessN_bit, Nat.testBit_or, hbit]; simp

set_option maxRecDepth 100000 in
theorem memSlot_long (ea : Nat → Addr) (a : Option Addr) (n cap : Nat) (m d s : Int) (t : List UInt8) (w : World) (hg : Glob w ea [1, 2, 3, 4, 5, 7, 8, 9]) (hT : TxtEnv w) (hm : n ≤ 4611686018427387904) (_ht : t.length ≤ maxLen) (h : 40 < n ∨ 150 < t.length) :
    Calls Tryd.prog 5 #[.slice a n cap, .agg #[.int .i64 m, .int .i64 d, .int .i64 s], .string ⟨t.toArray⟩] w fun e w' => e = .returned (.bool true) ∧ Below w.heap.size w w' := by
  have hb0 : Below w.heap.size w (w.alloc (.cells #[.int .i64 m, .int .i64 d, .int .i64 s] 42)) := (Below.refl _ _).alloc (Nat.le_refl _) _
  have K0 := Lib.hid (stepped_any ea _ (hg.below hb0) (hT.below hb0))
  by_cases h1 : 40 < n
  · clear h
    go_enter Tryd.func5, Tryd.ntmps5
    go_wp2_with fail
    refine K0.out.mono ?_
    rintro e w1 ⟨rfl, hb1⟩
    go_wp2
    go_ret
    exact ⟨rfl, hb0.trans (hb1.mono hb0.size)⟩
  · have h2 : 150 < t.length := by omega
    have d1 : decide ((40 : Int) < (n : Int)) = false := by simp; omega
    clear h
    go_enter Tryd.func5, Tryd.ntmps5
    go_wp2_with fail
    refine K0.out.mono ?_
    rintro e w1 ⟨rfl, hb1⟩
    go_wp2
    go_ret
    exact ⟨rfl, hb0.trans (hb1.mono hb0.size)⟩

set_option maxRecDepth 400000 in
set_option maxHeartbeats 1600000 in
theorem memSlot_err (ea : Nat → Addr) (a : Option Addr) (n cap : Nat) (l : List Int) (m d s : Int) (t : List UInt8) (w : World) (hg : Glob w ea [1, 2, 3, 4, 5, 7, 8, 9]) (hT : TxtEnv w) (hn : l.length = n) (hr : RowAt w a (encInts l)) (h40 : n ≤ 40) (h150 : t.length ≤ 150)
    (h : (stepF l m d s).1 ≠ 0) :
    Calls Tryd.prog 5 #[.slice a n cap, .agg #[.int .i64 m, .int .i64 d, .int .i64 s], .string ⟨t.toArray⟩] w fun e w' => e = .returned (.bool true) ∧ Below w.heap.size w w' := by
  have hb0 : Below w.heap.size w (w.alloc (.cells #[.int .i64 m, .int .i64 d, .int .i64 s] 42)) := (Below.refl _ _).alloc (Nat.le_refl _) _
  have K0 := Lib.hid (stepped_any ea _ (hg.below hb0) (hT.below hb0))
  have KS := Lib.hid (fun (W : World) (hb : Below w.heap.size w W) => step_any ea a n cap l m d s t W ((hg.below hb).sub (by simp)) (hT.below hb) hn (hr.below hb) (by omega) (by omega))
  rw [stepV, if_neg h, stepE, if_neg h] at KS
  have HV : ∀ W : World, (binOp .eql 42 (.agg #[.int .i64 0, .int .i64 0, .int .i64 0]) (.agg #[.int .i64 0, .int .i64 0, .int .i64 0])).run Tryd.prog W = .ok (.bool true) W := fun W => by
    rw [run_view_eql]; rfl
  have HQ : ∀ W : World, (binOp .eql 38 (.agg #[.int .i64 0, .int .i64 0, .bool false, .int .i64 0]) (.agg #[.int .i64 0, .int .i64 0, .bool false, .int .i64 0])).run Tryd.prog W = .ok (.bool true) W := fun W => by
    have h1 := run_ent_eql W ⟨0, 0, false, 0⟩ ⟨0, 0, false, 0⟩
    rw [show entEq ⟨0, 0, false, 0⟩ ⟨0, 0, false, 0⟩ = true from decide_eq_true rfl] at h1
    exact h1
  have H0 := Lib.hid h
  have d1 : decide ((40 : Int) < (n : Int)) = false := by simp; omega
  have d2 : decide ((150 : Int) < (t.length : Int)) = false := by simp; omega
  simp only [Ent.v] at KS
  clear hg hT hn hr h
  go_enter Tryd.func5, Tryd.ntmps5
  go_wp2_with fail
  refine K0.out.mono ?_
  rintro e w1 ⟨rfl, hb1⟩
  have hv1 := hb0.trans (hb1.mono hb0.size)
  have b0 := (Blok.new w 42 #[.int .i64 m, .int .i64 d, .int .i64 s]).kept hb1
  have c0 := b0.cell 0 rfl
  have c1 := b0.cell 1 rfl
  have c2 := b0.cell 2 rfl
  go_wp2_with fail
  refine (KS.out _ hv1).mono ?_
  rintro e w2 ⟨v, rfl, hv, hb2⟩
  obtain ⟨vt, vx, rfl⟩ := hv.held H0.out
  have hv2 := hv1.trans (hb2.mono hv1.size)
  go_wp2
  go_ret
  exact ⟨rfl, (hv2.alloc hv2.size _).alloc (by have := hv2.size; simp; omega) _⟩

set_option maxRecDepth 400000 in
set_option maxHeartbeats 1600000 in
theorem memSlot_ok (ea : Nat → Addr) (a : Option Addr) (n cap : Nat) (l : List Int) (m d s : Int) (t : List UInt8) (w : World) (hg : Glob w ea [1, 2, 3, 4, 5, 7, 8, 9]) (hT : TxtEnv w) (hn : l.length = n) (hr : RowAt w a (encInts l)) (h40 : n ≤ 40) (h150 : t.length ≤ 150)
    (h : (stepF l m d s).1 = 0) :
    Calls Tryd.prog 5 #[.slice a n cap, .agg #[.int .i64 m, .int .i64 d, .int .i64 s], .string ⟨t.toArray⟩] w fun e w' => e = .returned (.bool true) ∧ Below w.heap.size w w' := by
  have hM : (memRF l m d s).1 = 0 := by
    unfold stepF at h
    split at h
    · assumption
    · exact h
  have hs : s < 1000000 := by
    rw [stepF, if_pos hM] at h
    split at h
    · cases h
    · omega
  obtain ⟨hp, hve, _, hR⟩ := memRF_ok hM
  have hvd := (viewE_zero hve).2
  have hs0 : 0 ≤ s := by simp only [viewB, decide_eq_true_eq] at hvd; omega
  have hw1 : wrap64 (s + 1) = s + 1 := by unfold wrap64; omega
  have hlt := stepM_lt t hM
  have hB2 : viewE (stepM l m d s t : Int) d (s + 1) = 0 := by
    rw [viewE, if_pos]
    simp only [viewB, decide_eq_true_eq] at hvd
    simp only [Bool.and_eq_true, crewB, viewB, decide_eq_true_eq]
    omega
  have hb0 : Below w.heap.size w (w.alloc (.cells #[.int .i64 m, .int .i64 d, .int .i64 s] 42)) := (Below.refl _ _).alloc (Nat.le_refl _) _
  have K0 := Lib.hid (stepped_any ea _ (hg.below hb0) (hT.below hb0))
  have KS := Lib.hid (fun (W : World) (hb : Below w.heap.size w W) => step_any ea a n cap l m d s t W ((hg.below hb).sub (by simp)) (hT.below hb) hn (hr.below hb) (by omega) (by omega))
  have KW := Lib.hid (fun (W : World) (hb : Below w.heap.size w W) => who_any ea a n cap l s W ((hg.below hb).sub (by simp)) hn (hr.below hb) (by omega))
  have KC := Lib.hid (fun (W : World) (hb : Below w.heap.size w W) => memCheck_any ea (stepM l m d s t : Int) d (s + 1) W ((hg.below hb).sub (by simp)))
  have HH := Lib.hid (fun (k : Int) (W : World) => refHas_any (stepM l m d s t : Int) k W)
  have HW := Lib.hid (fun (k : Int) (W : World) => refHas_any m k W)
  have HS := Lib.hid (slot_who t hM)
  have HO := Lib.hid (fun (k : Int) (h1 : nodeB k = true) (h2 : k ≠ whoV l s.toNat) => slot_other t hM h1 h2)
  have hE : stepE l m d s t = ⟨s, whoV l s.toNat, stepOk l m d s t, if stepOk l m d s t then (frameF t).2.value else 0⟩ := by rw [stepE, if_pos h]
  rw [stepV, if_pos h, hE] at KS
  rw [whoF, if_pos hR] at KW
  rw [hB2, errV_zero] at KC
  have HF : Hid ((stepF l m d s).1 = 0) := h
  have HR : Hid ((rightF l s).1 = 0) := hR
  have d1 : decide ((40 : Int) < (n : Int)) = false := by simp; omega
  have d2 : decide ((150 : Int) < (t.length : Int)) = false := by simp; omega
  simp only [Ent.v] at KS
  generalize whoV l s.toNat = who at *
  generalize stepM l m d s t = M at *
  obtain ⟨val, hval⟩ : ∃ val, val = (if stepOk l m d s t then (frameF t).2.value else 0) := ⟨_, rfl⟩
  have HVal : Hid (stepOk l m d s t = false → val = 0) := by unfold Hid; intro e; rw [hval, e]; rfl
  rw [← hval] at KS
  generalize stepOk l m d s t = ok at *
  clear hg hT hn hr h hM hs hp hve hR hvd hs0 hB2 hval
  go_enter Tryd.func5, Tryd.ntmps5
  go_wp2_with fail
  refine K0.out.mono ?_
  rintro e w1 ⟨rfl, hb1⟩
  have hv1 := hb0.trans (hb1.mono hb0.size)
  have b0 := (Blok.new w 42 #[.int .i64 m, .int .i64 d, .int .i64 s]).kept hb1
  have c0 := b0.cell 0 rfl
  have c1 := b0.cell 1 rfl
  have c2 := b0.cell 2 rfl
  go_wp2_with fail
  refine (KS.out _ hv1).mono ?_
  rintro e w2 ⟨v, rfl, hv, hb2⟩
  rw [HF.out] at hv
  obtain rfl : v = .nilIface := hv.nil
  have hv2 := hv1.trans (hb2.mono hv1.size)
  have b0 := b0.kept hb2
  clear c0 c1 c2 hv hb1
  have b1 := (Blok.new w2 42 #[.int .i64 M, .int .i64 d, .int .i64 (s + 1)]).alloc (.cells #[.int .i64 s, .int .i64 who, .bool ok, .int .i64 val] 38)
  have b2 := Blok.new (w2.alloc (.cells #[.int .i64 M, .int .i64 d, .int .i64 (s + 1)] 42)) 38 #[.int .i64 s, .int .i64 who, .bool ok, .int .i64 val]
  rw [World.size_alloc] at b2
  have b0 := (b0.alloc (.cells #[.int .i64 M, .int .i64 d, .int .i64 (s + 1)] 42)).alloc (.cells #[.int .i64 s, .int .i64 who, .bool ok, .int .i64 val] 38)
  have hv3 := (hv2.alloc hv2.size (.cells #[.int .i64 M, .int .i64 d, .int .i64 (s + 1)] 42)).alloc (by have := hv2.size; simp; omega) (.cells #[.int .i64 s, .int .i64 who, .bool ok, .int .i64 val] 38)
  have c2 := b0.cell 2 rfl
  go_wp2_with fail
  generalize hW3 : (w2.alloc (.cells #[.int .i64 M, .int .i64 d, .int .i64 (s + 1)] 42)).alloc (.cells #[.int .i64 s, .int .i64 who, .bool ok, .int .i64 val] 38) = w3 at *
  clear hW3
  refine (KW.out _ hv3).mono ?_
  rintro e w4 ⟨v, rfl, hv, hb4⟩
  rw [HR.out] at hv
  obtain rfl : v = .nilIface := hv.nil
  have hv4 := hv3.trans (hb4.mono hv3.size)
  have b0 := b0.kept hb4
  have b1 := b1.kept hb4
  have b2 := b2.kept hb4
  clear hb4 hv c2
  have c0 := b0.cell 0 rfl
  have c1 := b0.cell 1 rfl
  have c2 := b0.cell 2 rfl
  have e0 := b1.cell 0 rfl
  have e1 := b1.cell 1 rfl
  have e2 := b1.cell 2 rfl
  have f0 := b2.cell 0 rfl
  have f1 := b2.cell 1 rfl
  have f2 := b2.cell 2 rfl
  have f3 := b2.cell 3 rfl
  go_wp2_with fail
  refine (KC.out _ hv4).mono ?_
  rintro e w5 ⟨rfl, hb5⟩
  have hv5 := hv4.trans (hb5.mono hv4.size)
  have b0 := b0.kept hb5
  have b1 := b1.kept hb5
  have b2 := b2.kept hb5
  clear c0 c1 c2 e0 e1 e2 f0 f1 f2 f3 hb5
  have c0 := b0.cell 0 rfl
  have e0 := b1.cell 0 rfl
  have f2 := b2.cell 2 rfl
  have f3 := b2.cell 3 rfl
  go_wp2
  go_loop [12] (fun i => ∃ k : Nat, k ≤ 16 ∧ i = .int .i64 ((k : Int) + 1)) (fun i => 18 - (intOf i).toNat)
  case atStart => exact ⟨0, Nat.zero_le _, rfl⟩
  case round =>
    obtain ⟨k, hk, rfl⟩ := hrel
    by_cases hlt : k < 16
    · have hnd : nodeB ((k : Int) + 1) = true := by simp only [nodeB, decide_eq_true_eq]; omega
      have K1 := Lib.hid (fun (W : World) => HH.out ((k : Int) + 1) W)
      have K2 := Lib.hid (fun (W : World) => HW.out ((k : Int) + 1) W)
      by_cases hwho : (k : Int) + 1 = who
      · have hx := HS.out
        rw [← hwho] at hx
        rw [hx] at K1
        have hb : ((k : Int) + 1 == who) = true := by simpa using hwho
        have hb' : ((k : Int) + 1 != who) = false := by simpa using hwho
        generalize hasB m ((k : Int) + 1) = was at *
        clear hx hwho
        go_wp2_with fail
        refine (K1.out _).mono ?_
        rintro e w6 ⟨rfl, rfl⟩
        go_wp2_with fail
        refine (K2.out _).mono ?_
        rintro e w6 ⟨rfl, rfl⟩
        cases ok
        all_goals
          go_wp2
          go_round
          case rel => exact ⟨k + 1, by omega, by go_num⟩
          case measure => simp [intOf]; omega
      · have hx := HO.out _ hnd hwho
        rw [hx] at K1
        have hb : ((k : Int) + 1 == who) = false := by simpa using hwho
        have hb' : ((k : Int) + 1 != who) = true := by simpa using hwho
        generalize hasB m ((k : Int) + 1) = was at *
        clear hx hwho
        go_wp2_with fail
        refine (K1.out _).mono ?_
        rintro e w6 ⟨rfl, rfl⟩
        go_wp2_with fail
        refine (K2.out _).mono ?_
        rintro e w6 ⟨rfl, rfl⟩
        cases was
        all_goals
          go_wp2
          go_round
          case rel => exact ⟨k + 1, by omega, by go_num⟩
          case measure => simp [intOf]; omega
    · obtain rfl : k = 16 := by omega
      cases ok
      · have hz := HVal.out rfl
        subst hz
        go_wp2
        go_ret
        exact ⟨rfl, hv5⟩
      · go_wp2
        go_ret
        exact ⟨rfl, hv5⟩

theorem walk_MemberSlot (ea : Nat → Addr) (a : Option Addr) (n cap : Nat) (l : List Int) (m d s : Int) (t : List UInt8) (w : World) (hg : Glob w ea [1, 2, 3, 4, 5, 7, 8, 9]) (hT : TxtEnv w)
    (hn : l.length = n) (hr : RowAt w a (encInts l)) (_hc : n ≤ cap) (hm : n ≤ 4611686018427387904) (_hv : (-9223372036854775808 ≤ m ∧ m ≤ 9223372036854775807) ∧ (-9223372036854775808 ≤ d ∧ d ≤ 9223372036854775807) ∧ (-9223372036854775808 ≤ s ∧ s ≤ 9223372036854775807)) (ht : t.length ≤ maxLen) :
    Calls Tryd.prog 5 #[.slice a n cap, .agg #[.int .i64 m, .int .i64 d, .int .i64 s], .string ⟨t.toArray⟩] w fun e w' => e = .returned (.bool true) ∧ Below w.heap.size w w' := by
  by_cases h : 40 < n ∨ 150 < t.length
  · exact memSlot_long ea a n cap m d s t w hg hT hm ht h
  · by_cases h0 : (stepF l m d s).1 = 0
    · exact memSlot_ok ea a n cap l m d s t w hg hT hn hr (by omega) (by omega) h0
    · exact memSlot_err ea a n cap l m d s t w hg hT hn hr (by omega) (by omega) h0
end Go.Proofs.YtbfocagicagehaaDoor
