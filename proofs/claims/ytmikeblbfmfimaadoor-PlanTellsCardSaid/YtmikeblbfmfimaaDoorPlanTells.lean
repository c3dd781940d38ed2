/- PlanTells: the law's walk. -/
import Derived.Test.YtmikeblbfmfimaaDoorRefNext
import Derived.Test.YtmikeblbfmfimaaDoorOwnInts
import Derived.Test.YtmikeblbfmfimaaDoorPlanFact
import Derived.Test.YtmikeblbfmfimaaDoorCoded
import Derived.Test.YtmikeblbfmfimaaDoorSameInts
import Derived.Deep.RegionHeld3
namespace Go.Proofs.YtmikeblbfmfimaaDoor
open Go.RowKit

set_option maxRecDepth 100000 in
theorem planTells_long (ea : Nat → Addr) (a : Option Addr) (n cap : Nat) (node slot : Int) (w : World) (hG : GlobC w ea) (hc : n ≤ 4611686018427387904) (h : 40 < n) :
    Calls Tryd.prog 5 #[.slice a n cap, .int .i64 node, .int .i64 slot] w fun e w' => e = .returned (.bool true) ∧ Below w.heap.size w w' := by
  have C := Lib.hid (planned_any ea w (hG.glob.sub (by simp)))
  clear hG
  go_enter Tryd.func5, Tryd.ntmps5
  go_wp2_with fail
  refine C.out.mono ?_
  rintro e w1 ⟨rfl, hb⟩
  go_wp2
  go_ret
  exact ⟨rfl, hb⟩

theorem faulted1_same (ea : Nat → Addr) (v : Value) (code : Nat) (pl : Int) (w : World) (hG : GlobC w ea) (hE : ErrIs ea w v code pl) (h11 : code ≤ 11) :
    Calls Tryd.prog 25 #[v, .agg #[.int .i64 code, .int .i64 pl]] w fun e w' => e = .returned (.bool true) ∧ Below w.heap.size w w' :=
  (faulted1_any ea v code pl code pl w hG hE h11).mono fun e w' ⟨h1, h2⟩ => ⟨by rw [h1]; simp, h2⟩
set_option maxRecDepth 400000 in
set_option maxHeartbeats 3200000 in
theorem planTells_bad (ea : Nat → Addr) (a : Option Addr) (n cap : Nat) (l : List Int) (node : Int) (slot : Int) (w : World) (hG : GlobC w ea) (hn : l.length = n) (hr : RowAt w a (encInts l)) (h : n ≤ 40) (h0 : (planF l).1 ≠ 0) :
    Calls Tryd.prog 5 #[.slice a n cap, .int .i64 node, .int .i64 slot] w fun e w' => e = .returned (.bool true) ∧ Below w.heap.size w w' := by
  have C1 := Lib.hid (planned_any ea w (hG.glob.sub (by simp)))
  have hfl := planF_le l
  have hrl := rightF_le l slot
  have hnl := nextF_le l node slot
  have HCR : Hid (planCrewF l = 0) := by unfold Hid; rw [planCrewF, if_neg h0]
  have HSH : Hid (shareF l node = 0) := by unfold Hid; rw [shareF, if_neg h0]
  have HRF := Lib.hid (rightF_bad h0 slot)
  have hrn : (rightF l slot).1 ≠ 0 := by rw [HRF.out]; exact h0
  have HWH : Hid (whoF l slot = 0) := by unfold Hid; rw [whoF, if_neg hrn]
  have HRA : Hid (roundA l slot = 0) := by unfold Hid; rw [roundA, if_neg hrn]
  have HRB : Hid (roundB l slot = 0) := by unfold Hid; rw [roundB, if_neg hrn]
  have hz : (((planF l).1 : Int) == 0) = false := by simp; omega
  have hp : (0 : Int) < ((planF l).1 : Int) := by omega
  have R2 := Lib.hid (fun (W : World) (hb : Below w.heap.size w W) => planFault_any a n cap l W hn (hr.below hb) (by omega))
  have HR := Lib.hid hr
  have HN := Lib.hid hn
  clear hn hr h0 hrn
  go_enter Tryd.func5, Tryd.ntmps5
  go_wp2_with fail
  refine C1.out.mono ?_
  rintro e w1 ⟨rfl, hb1⟩
  go_wp2_with (at_builtin; refine wpList_ownInts rfl _ _ rfl w.heap.size a n cap l rfl rfl HN.out (HR.out.below hb1) (by omega) hb1.size ?_; intro ao co w2 hown hro hco hb2)
  have hw2 : Below w.heap.size w w2 := onto hb1 hb2
  clear hown hb1 hb2
  have hr2 := HR.out.below hw2
  have HG2 := Lib.hid (hG.below hw2)
  have KC := Lib.hid (fun (W : World) (hb : Below w2.heap.size w2 W) => planCrew_any ea ao n co l W ((HG2.out.below hb).glob.sub (by simp)) HN.out (hro.below hb) (by omega))
  have KK := Lib.hid (fun (W : World) (hb : Below w2.heap.size w2 W) => planCheck_any ea ao n co l W ((HG2.out.below hb).glob.sub (by simp)) HN.out (hro.below hb) (by omega))
  have KW := Lib.hid (fun (W : World) (hb : Below w2.heap.size w2 W) => who_any ea ao n co l slot W ((HG2.out.below hb).glob.sub (by simp)) HN.out (hro.below hb) (by omega))
  have KR := Lib.hid (fun (W : World) (hb : Below w2.heap.size w2 W) => round_any ea ao n co l slot W ((HG2.out.below hb).glob.sub (by simp)) HN.out (hro.below hb) (by omega))
  have KS := Lib.hid (fun (W : World) (hb : Below w2.heap.size w2 W) => share_any ea ao n co l node W ((HG2.out.below hb).glob.sub (by simp)) HN.out (hro.below hb) (by omega))
  have KN := Lib.hid (fun (W : World) (hb : Below w2.heap.size w2 W) => next_any ea ao n co l node slot W ((HG2.out.below hb).glob.sub (by simp)) HN.out (hro.below hb) (by omega))
  have RS := Lib.hid (fun (W : World) (hb : Below w2.heap.size w2 W) => slotFault_any a n cap l slot W HN.out (hr2.below hb) (by omega))
  have RN := Lib.hid (fun (W : World) (hb : Below w2.heap.size w2 W) => refNext_any a n cap l node slot W HN.out (hr2.below hb) (by omega))
  have SI := Lib.hid (fun (W : World) (hb : Below w2.heap.size w2 W) => sameInts_any ao a n co n cap l l W HN.out (hro.below hb) HN.out (hr2.below hb) (by omega))
  have F1 := Lib.hid (fun (W : World) (v : Value) (hb : Below w2.heap.size w2 W) (hE : ErrIs ea W v (planF l).1 (planF l).2) => faulted1_same ea v _ _ W (HG2.out.below hb) hE hfl)
  have F2 := Lib.hid (fun (W : World) (v : Value) (hb : Below w2.heap.size w2 W) (hE : ErrIs ea W v (rightF l slot).1 (rightF l slot).2) => faulted1_same ea v _ _ W (HG2.out.below hb) hE hrl)
  have F3 := Lib.hid (fun (W : World) (v : Value) (hb : Below w2.heap.size w2 W) (hE : ErrIs ea W v (nextF l node slot).2.1 (nextF l node slot).2.2) => faulted1_same ea v _ _ W (HG2.out.below hb) hE hnl)
  rw [HCR.out] at KC
  rw [HSH.out] at KS
  rw [HWH.out] at KW
  rw [HRA.out, HRB.out] at KR
  clear hfl hrl hnl HCR HSH HWH HRA HRB
  rw [HRF.out] at KW KR RS F2
  generalize hq1 : ((planF l).1 : Int) = c at *
  generalize hq2 : (planF l).2 = pl at *
  clear hq1 hq2 HRF
  generalize hq3 : ((nextF l node slot).2.1 : Int) = d at *
  generalize hq4 : (nextF l node slot).2.2 = dl at *
  generalize hq5 : (nextF l node slot).1 = x at *
  clear hq3 hq4 hq5
  refine (R2.out _ hw2).mono ?_
  rintro e w3 ⟨rfl, hb3⟩
  go_wp2_with fail
  refine (KC.out _ (hb3.alloc hb3.size _)).mono ?_
  rintro e w4 ⟨v4, rfl, hE4, hb4⟩
  obtain ⟨c0, c1, f0, f1, z4, hb34⟩ := own2 hb4
  have hv4 := onto hb3 hb34
  generalize hB : w3.heap.size = B at *
  have hB2 : w2.heap.size ≤ B := by rw [← hB]; exact hb3.size
  have HB := Lib.hid hB
  clear hB hb4 hb34
  have hx4 : Below w2.heap.size w2 w4.drew := below_drewN hv4 1
  have hy4 : ErrIs ea w4.drew v4 _ _ := hE4.below (below_drewN (Below.refl w4.heap.size w4) 1)
  go_wp2
  go_region_held3 (fun w' => w'.cell? ⟨B, 0, none⟩ = some (.int .i64 c) ∧ w'.cell? ⟨B, 1, none⟩ = some (.int .i64 pl)) (go_keep)
    (first
      | (go_at_call 26; (with_reducible refine (KK.out _ hx4).mono ?_); rintro e w5 ⟨v5, rfl, hE5, hb5⟩; obtain ⟨k0, k1, g0, g1, z5⟩ := keep2 hb5 z4 c0 c1 f0 f1; have hv5 := onto hx4 hb5; have hE45 := hy4.below hb5)
      | (go_at_call 25; (with_reducible refine (F1.out _ v5 hv5 hE5).mono ?_); rintro e w6 ⟨rfl, hb6⟩; obtain ⟨k0, k1, g0, g1, z6⟩ := keep2 hb6 z5 k0 k1 g0 g1; have hv6 := onto hv5 hb6; have hE46 := hE45.below hb6)
      | (go_at_call 25; (with_reducible refine (F1.out _ v4 hv6 hE46).mono ?_); rintro e w7 ⟨rfl, hb7⟩; obtain ⟨k0, k1, g0, g1, z7⟩ := keep2 hb7 z6 k0 k1 g0 g1; have hv7 := onto hv6 hb7))
  go_wp2
  refine wp_loop_rounds 1 ?_
  rw [rounds_succ]
  go_wp2_with fail
  all_goals
    refine (RS.out _ hv7).mono ?_
    rintro e w8 ⟨rfl, hb8⟩
    obtain ⟨k0, k1, g0, g1, z8⟩ := keep2 hb8 z7 k0 k1 g0 g1
    have hv8 := onto hv7 hb8
    obtain ⟨W9, hW9, k0, k1, g0, g1, z9, hb9⟩ := set2 (x := .int .i64 c) (y := .int .i64 pl) z8 k0 k1 g0 g1
    have hv9 := hb9 w2 hv8 hB2
    clear hb9
    go_wp2_with fail
    rw [← hW9]
    refine (KW.out _ hv9).mono ?_
    rintro e w10 ⟨v10, rfl, hE10, hb10⟩
    obtain ⟨k0, k1, g0, g1, z10⟩ := keep2 hb10 z9 k0 k1 g0 g1
    have hv10 := onto hv9 hb10
    go_wp2_with fail
    refine (KR.out _ hv10).mono ?_
    rintro e w11 ⟨v11, rfl, hE11, hb11⟩
    obtain ⟨k0, k1, g0, g1, z11⟩ := keep2 hb11 z10 k0 k1 g0 g1
    have hv11 := onto hv10 hb11
    have hE10 := hE10.below hb11
    go_wp2_with fail
    refine (F2.out _ v10 hv11 hE10).mono ?_
    rintro e w12 ⟨rfl, hb12⟩
    obtain ⟨k0, k1, g0, g1, z12⟩ := keep2 hb12 z11 k0 k1 g0 g1
    have hv12 := onto hv11 hb12
    have hE11 := hE11.below hb12
    go_wp2_with fail
    refine (F2.out _ v11 hv12 hE11).mono ?_
    rintro e w13 ⟨rfl, hb13⟩
    obtain ⟨k0, k1, g0, g1, z13⟩ := keep2 hb13 z12 k0 k1 g0 g1
    have hv13 := onto hv12 hb13
    go_wp2_with fail
    refine (KS.out _ hv13).mono ?_
    rintro e w14 ⟨rfl, hb14⟩
    obtain ⟨k0, k1, g0, g1, z14⟩ := keep2 hb14 z13 k0 k1 g0 g1
    have hv14 := onto hv13 hb14
    go_wp2_with fail
    refine (KN.out _ hv14).mono ?_
    rintro e w15 ⟨v15, rfl, hE15, hb15⟩
    obtain ⟨k0, k1, g0, g1, z15⟩ := keep2 hb15 z14 k0 k1 g0 g1
    have hv15 := onto hv14 hb15
    go_wp2_with fail
    refine (RN.out _ hv15).mono ?_
    rintro e w16 ⟨rfl, hb16⟩
    obtain ⟨k0, k1, g0, g1, z16⟩ := keep2 hb16 z15 k0 k1 g0 g1
    have hv16 := onto hv15 hb16
    have hE15 := (hE15.below hb16).set2 k1 (.int .i64 d) (.int .i64 dl)
    obtain ⟨W17, hW17, k0, k1, g0, g1, z17, hb17⟩ := set2 (x := .int .i64 d) (y := .int .i64 dl) z16 k0 k1 g0 g1
    have hv17 := hb17 w2 hv16 hB2
    rw [← hW17] at hE15
    clear hb17
    go_wp2_with fail
    rw [← hW17]
    refine (F3.out _ v15 hv17 hE15).mono ?_
    rintro e w18 ⟨rfl, hb18⟩
    have hv18 := onto hv17 hb18
    go_wp2_with fail
    refine (SI.out _ hv18).mono ?_
    rintro e w19 ⟨rfl, hb19⟩
    go_wp2
    go_ret
    exact ⟨rfl, onto hw2 (onto hv18 hb19)⟩
set_option maxRecDepth 400000 in
set_option maxHeartbeats 3200000 in
theorem planTells_slotbad (ea : Nat → Addr) (a : Option Addr) (n cap : Nat) (l : List Int) (node : Int) (slot : Int) (w : World) (hG : GlobC w ea) (hn : l.length = n) (hr : RowAt w a (encInts l)) (h : n ≤ 40) (h0 : (planF l).1 = 0) (hs : (rightF l slot).1 ≠ 0) :
    Calls Tryd.prog 5 #[.slice a n cap, .int .i64 node, .int .i64 slot] w fun e w' => e = .returned (.bool true) ∧ Below w.heap.size w w' := by
  have C1 := Lib.hid (planned_any ea w (hG.glob.sub (by simp)))
  have hfl := planF_le l
  have hrl := rightF_le l slot
  have hnl := nextF_le l node slot
  have HF := Lib.hid (planF_ok h0).1
  have hl := planF_ok h0
  have HCR : Hid (planCrewF l = crewOf l) := by unfold Hid; rw [planCrewF, if_pos h0]
  have HSH : Hid (shareF l node = l.count node) := by unfold Hid; rw [shareF, if_pos h0]
  have HCF : Hid (crewF l = (((crewOf l : Nat) : Int), 0, -1)) := by unfold Hid; rw [crewF, if_pos ((badIdx_neg l 0 (by omega)).2 hl.2.2.2)]
  have HRF : Hid (rightF l slot = (2, -1)) := by unfold Hid; rw [rightF, if_pos h0]; rw [if_neg (fun h => hs (by rw [rightF, if_pos h0, if_pos h]))]
  have hrn := hs
  have HWH : Hid (whoF l slot = 0) := by unfold Hid; rw [whoF, if_neg hrn]
  have HRA : Hid (roundA l slot = 0) := by unfold Hid; rw [roundA, if_neg hrn]
  have HRB : Hid (roundB l slot = 0) := by unfold Hid; rw [roundB, if_neg hrn]
  have R2 := Lib.hid (fun (W : World) (hb : Below w.heap.size w W) => planFault_any a n cap l W hn (hr.below hb) (by omega))
  have HR := Lib.hid hr
  have HN := Lib.hid hn
  clear hn hr h0 hrn hl hs
  go_enter Tryd.func5, Tryd.ntmps5
  go_wp2_with fail
  refine C1.out.mono ?_
  rintro e w1 ⟨rfl, hb1⟩
  go_wp2_with (at_builtin; refine wpList_ownInts rfl _ _ rfl w.heap.size a n cap l rfl rfl HN.out (HR.out.below hb1) (by omega) hb1.size ?_; intro ao co w2 hown hro hco hb2)
  have hw2 : Below w.heap.size w w2 := onto hb1 hb2
  clear hown hb1 hb2
  have hr2 := HR.out.below hw2
  have HG2 := Lib.hid (hG.below hw2)
  have KC := Lib.hid (fun (W : World) (hb : Below w2.heap.size w2 W) => planCrew_any ea ao n co l W ((HG2.out.below hb).glob.sub (by simp)) HN.out (hro.below hb) (by omega))
  have KK := Lib.hid (fun (W : World) (hb : Below w2.heap.size w2 W) => planCheck_any ea ao n co l W ((HG2.out.below hb).glob.sub (by simp)) HN.out (hro.below hb) (by omega))
  have KW := Lib.hid (fun (W : World) (hb : Below w2.heap.size w2 W) => who_any ea ao n co l slot W ((HG2.out.below hb).glob.sub (by simp)) HN.out (hro.below hb) (by omega))
  have KR := Lib.hid (fun (W : World) (hb : Below w2.heap.size w2 W) => round_any ea ao n co l slot W ((HG2.out.below hb).glob.sub (by simp)) HN.out (hro.below hb) (by omega))
  have KS := Lib.hid (fun (W : World) (hb : Below w2.heap.size w2 W) => share_any ea ao n co l node W ((HG2.out.below hb).glob.sub (by simp)) HN.out (hro.below hb) (by omega))
  have KN := Lib.hid (fun (W : World) (hb : Below w2.heap.size w2 W) => next_any ea ao n co l node slot W ((HG2.out.below hb).glob.sub (by simp)) HN.out (hro.below hb) (by omega))
  have RC := Lib.hid (fun (W : World) (hb : Below w2.heap.size w2 W) => refCrewOf_any a n cap l W HN.out (hr2.below hb) (by omega))
  have RS := Lib.hid (fun (W : World) (hb : Below w2.heap.size w2 W) => slotFault_any a n cap l slot W HN.out (hr2.below hb) (by omega))
  have RN := Lib.hid (fun (W : World) (hb : Below w2.heap.size w2 W) => refNext_any a n cap l node slot W HN.out (hr2.below hb) (by omega))
  have SI := Lib.hid (fun (W : World) (hb : Below w2.heap.size w2 W) => sameInts_any ao a n co n cap l l W HN.out (hro.below hb) HN.out (hr2.below hb) (by omega))
  have F1 := Lib.hid (fun (W : World) (v : Value) (hb : Below w2.heap.size w2 W) (hE : ErrIs ea W v (planF l).1 (planF l).2) => faulted1_same ea v _ _ W (HG2.out.below hb) hE hfl)
  have F2 := Lib.hid (fun (W : World) (v : Value) (hb : Below w2.heap.size w2 W) (hE : ErrIs ea W v (rightF l slot).1 (rightF l slot).2) => faulted1_same ea v _ _ W (HG2.out.below hb) hE hrl)
  have F3 := Lib.hid (fun (W : World) (v : Value) (hb : Below w2.heap.size w2 W) (hE : ErrIs ea W v (nextF l node slot).2.1 (nextF l node slot).2.2) => faulted1_same ea v _ _ W (HG2.out.below hb) hE hnl)
  rw [HCR.out] at KC
  rw [HSH.out] at KS
  rw [HWH.out] at KW
  rw [HRA.out, HRB.out] at KR
  clear hfl hrl hnl HCR HSH HWH HRA HRB
  rw [HF.out] at KC KK R2 F1
  rw [HRF.out] at KW KR RS F2
  rw [HCF.out] at RC
  clear HF HRF HCF
  simp only [Int.cast_ofNat_Int] at R2 F1 RS F2 RC
  generalize hq3 : ((nextF l node slot).2.1 : Int) = d at *
  generalize hq4 : (nextF l node slot).2.2 = dl at *
  generalize hq5 : (nextF l node slot).1 = x at *
  clear hq3 hq4 hq5
  refine (R2.out _ hw2).mono ?_
  rintro e w3 ⟨rfl, hb3⟩
  go_wp2_with fail
  refine (KC.out _ (hb3.alloc hb3.size _)).mono ?_
  rintro e w4 ⟨v4, rfl, hE4, hb4⟩
  obtain ⟨c0, c1, f0, f1, z4, hb34⟩ := own2 hb4
  have hv4 := onto hb3 hb34
  generalize hB : w3.heap.size = B at *
  have hB2 : w2.heap.size ≤ B := by rw [← hB]; exact hb3.size
  have HB := Lib.hid hB
  clear hB hb4 hb34
  go_wp2_with fail
  refine (RC.out _ hv4).mono ?_
  rintro e w4b ⟨rfl, hb4b⟩
  have hE4 := hE4.below hb4b
  obtain ⟨c0, c1, f0, f1, z4⟩ := keep2 hb4b z4 c0 c1 f0 f1
  have hv4 := onto hv4 hb4b
  have hx4 : Below w2.heap.size w2 w4b.drew := below_drewN hv4 1
  have hy4 : ErrIs ea w4b.drew v4 _ _ := hE4.below (below_drewN (Below.refl w4b.heap.size w4b) 1)
  go_wp2
  go_region_held3 (fun w' => w'.cell? ⟨B, 0, none⟩ = some (.int .i64 0) ∧ w'.cell? ⟨B, 1, none⟩ = some (.int .i64 (-1))) (go_keep)
    (first
      | (go_at_call 26; (with_reducible refine (KK.out _ hx4).mono ?_); rintro e w5 ⟨v5, rfl, hE5, hb5⟩; obtain ⟨k0, k1, g0, g1, z5⟩ := keep2 hb5 z4 c0 c1 f0 f1; have hv5 := onto hx4 hb5; have hE45 := hy4.below hb5)
      | (go_at_call 25; (with_reducible refine (F1.out _ v5 hv5 hE5).mono ?_); rintro e w6 ⟨rfl, hb6⟩; obtain ⟨k0, k1, g0, g1, z6⟩ := keep2 hb6 z5 k0 k1 g0 g1; have hv6 := onto hv5 hb6; have hE46 := hE45.below hb6)
      | (go_at_call 25; (with_reducible refine (F1.out _ v4 hv6 hE46).mono ?_); rintro e w7 ⟨rfl, hb7⟩; obtain ⟨k0, k1, g0, g1, z7⟩ := keep2 hb7 z6 k0 k1 g0 g1; have hv7 := onto hv6 hb7))
  go_wp2
  have hr7 := hr2.below hv7
  go_loop [13, 14] (fun m i => ∃ j : Nat, j ≤ n ∧ i = .int .i64 j ∧ m = .int .i64 ((l.take j).count node)) (fun _ i => n - (intOf i).toNat)
  case atStart => exact ⟨0, Nat.zero_le _, rfl, rfl⟩
  case round =>
    obtain ⟨j, hj, rfl, rfl⟩ := hrel
    by_cases hlt : j < n
    · have hjt : j < l.length := by have := HN.out; omega
      obtain ⟨b, off, rfl, hbl, q0⟩ := intD hr7 j hjt
      have HS := Lib.hid (count_snoc l node j hjt)
      have hle : ((l.take j).count node : Int) ≤ 40 := by have := List.count_le_length (a := node) (l := l.take j); have := List.length_take_le j l; omega
      have hge : (0 : Int) ≤ ((l.take j).count node : Int) := by omega
      generalize l.getD j 0 = y at *
      clear hjt
      cases hy : (y == node)
      all_goals
        have HY := Lib.hid hy
        go_wp2
        go_round
        case rel => exact ⟨j + 1, by omega, by go_num, by rw [HS.out, HY.out]; first | rfl | go_num⟩
        case measure => simp [intOf]; omega
    · have e1 : l.take j = l := List.take_of_length_le (by have := HN.out; omega)
      rw [e1]
      clear e1
      go_wp2_with fail
      refine (RS.out _ hv7).mono ?_
      rintro e w8 ⟨rfl, hb8⟩
      obtain ⟨k0, k1, g0, g1, z8⟩ := keep2 hb8 z7 k0 k1 g0 g1
      have hv8 := onto hv7 hb8
      obtain ⟨W9, hW9, k0, k1, g0, g1, z9, hb9⟩ := set2 (x := .int .i64 2) (y := .int .i64 (-1)) z8 k0 k1 g0 g1
      have hv9 := hb9 w2 hv8 hB2
      clear hb9
      go_wp2_with fail
      rw [← hW9]
      refine (KW.out _ hv9).mono ?_
      rintro e w10 ⟨v10, rfl, hE10, hb10⟩
      obtain ⟨k0, k1, g0, g1, z10⟩ := keep2 hb10 z9 k0 k1 g0 g1
      have hv10 := onto hv9 hb10
      go_wp2_with fail
      refine (KR.out _ hv10).mono ?_
      rintro e w11 ⟨v11, rfl, hE11, hb11⟩
      obtain ⟨k0, k1, g0, g1, z11⟩ := keep2 hb11 z10 k0 k1 g0 g1
      have hv11 := onto hv10 hb11
      have hE10 := hE10.below hb11
      go_wp2_with fail
      refine (F2.out _ v10 hv11 hE10).mono ?_
      rintro e w12 ⟨rfl, hb12⟩
      obtain ⟨k0, k1, g0, g1, z12⟩ := keep2 hb12 z11 k0 k1 g0 g1
      have hv12 := onto hv11 hb12
      have hE11 := hE11.below hb12
      go_wp2_with fail
      refine (F2.out _ v11 hv12 hE11).mono ?_
      rintro e w13 ⟨rfl, hb13⟩
      obtain ⟨k0, k1, g0, g1, z13⟩ := keep2 hb13 z12 k0 k1 g0 g1
      have hv13 := onto hv12 hb13
      go_wp2_with fail
      refine (KS.out _ hv13).mono ?_
      rintro e w14 ⟨rfl, hb14⟩
      obtain ⟨k0, k1, g0, g1, z14⟩ := keep2 hb14 z13 k0 k1 g0 g1
      have hv14 := onto hv13 hb14
      go_wp2_with fail
      refine (KN.out _ hv14).mono ?_
      rintro e w15 ⟨v15, rfl, hE15, hb15⟩
      obtain ⟨k0, k1, g0, g1, z15⟩ := keep2 hb15 z14 k0 k1 g0 g1
      have hv15 := onto hv14 hb15
      go_wp2_with fail
      refine (RN.out _ hv15).mono ?_
      rintro e w16 ⟨rfl, hb16⟩
      obtain ⟨k0, k1, g0, g1, z16⟩ := keep2 hb16 z15 k0 k1 g0 g1
      have hv16 := onto hv15 hb16
      have hE15 := (hE15.below hb16).set2 k1 (.int .i64 d) (.int .i64 dl)
      obtain ⟨W17, hW17, k0, k1, g0, g1, z17, hb17⟩ := set2 (x := .int .i64 d) (y := .int .i64 dl) z16 k0 k1 g0 g1
      have hv17 := hb17 w2 hv16 hB2
      rw [← hW17] at hE15
      clear hb17
      go_wp2_with fail
      rw [← hW17]
      refine (F3.out _ v15 hv17 hE15).mono ?_
      rintro e w18 ⟨rfl, hb18⟩
      have hv18 := onto hv17 hb18
      go_wp2_with fail
      refine (SI.out _ hv18).mono ?_
      rintro e w19 ⟨rfl, hb19⟩
      go_wp2
      go_ret
      exact ⟨rfl, onto hw2 (onto hv18 hb19)⟩
set_option maxRecDepth 400000 in
set_option maxHeartbeats 3200000 in
theorem planTells_ok (ea : Nat → Addr) (a : Option Addr) (n cap : Nat) (l : List Int) (node : Int) (k : Nat) (w : World) (hG : GlobC w ea) (hn : l.length = n) (hr : RowAt w a (encInts l)) (h : n ≤ 40) (h0 : (planF l).1 = 0) (hs : (rightF l (k : Int)).1 = 0) :
    Calls Tryd.prog 5 #[.slice a n cap, .int .i64 node, .int .i64 (k : Int)] w fun e w' => e = .returned (.bool true) ∧ Below w.heap.size w w' := by
  have C1 := Lib.hid (planned_any ea w (hG.glob.sub (by simp)))
  have hfl := planF_le l
  have hrl := rightF_le l (k : Int)
  have hnl := nextF_le l node (k : Int)
  have HF := Lib.hid (planF_ok h0).1
  have hl := planF_ok h0
  have HCR : Hid (planCrewF l = crewOf l) := by unfold Hid; rw [planCrewF, if_pos h0]
  have HSH : Hid (shareF l node = l.count node) := by unfold Hid; rw [shareF, if_pos h0]
  have HCF : Hid (crewF l = (((crewOf l : Nat) : Int), 0, -1)) := by unfold Hid; rw [crewF, if_pos ((badIdx_neg l 0 (by omega)).2 hl.2.2.2)]
  have HRF := Lib.hid (rightF_zero hs)
  have HWH : Hid (whoF l (k : Int) = whoV l k) := by unfold Hid; rw [whoF, if_pos hs]; rfl
  have HRA : Hid (roundA l (k : Int) = (k : Int) / (n : Int)) := by unfold Hid; rw [roundA, if_pos hs, hn]
  have HRB : Hid (roundB l (k : Int) = (k : Int) % (n : Int)) := by unfold Hid; rw [roundB, if_pos hs, hn]
  have hk1 := (rightF_ok hs).2.2
  have hn0 : 0 < n := by omega
  have hnz : ((n : Int) == 0) = false := by simp; omega
  have hd1 : 0 ≤ (k : Int) / n := Int.ediv_nonneg (by omega) (by omega)
  have hd2 : (k : Int) / n ≤ k := Int.ediv_le_self _ (by omega)
  have hm1 := Nat.mod_lt k hn0
  have hm2 : 0 ≤ (k : Int) % n := Int.emod_nonneg _ (by omega)
  have hm3 : (k : Int) % n < n := Int.emod_lt_of_pos _ (by omega)
  have R2 := Lib.hid (fun (W : World) (hb : Below w.heap.size w W) => planFault_any a n cap l W hn (hr.below hb) (by omega))
  have HR := Lib.hid hr
  have HN := Lib.hid hn
  clear hn hr h0 hs hl
  go_enter Tryd.func5, Tryd.ntmps5
  go_wp2_with fail
  refine C1.out.mono ?_
  rintro e w1 ⟨rfl, hb1⟩
  go_wp2_with (at_builtin; refine wpList_ownInts rfl _ _ rfl w.heap.size a n cap l rfl rfl HN.out (HR.out.below hb1) (by omega) hb1.size ?_; intro ao co w2 hown hro hco hb2)
  have hw2 : Below w.heap.size w w2 := onto hb1 hb2
  clear hown hb1 hb2
  have hr2 := HR.out.below hw2
  have HG2 := Lib.hid (hG.below hw2)
  have KC := Lib.hid (fun (W : World) (hb : Below w2.heap.size w2 W) => planCrew_any ea ao n co l W ((HG2.out.below hb).glob.sub (by simp)) HN.out (hro.below hb) (by omega))
  have KK := Lib.hid (fun (W : World) (hb : Below w2.heap.size w2 W) => planCheck_any ea ao n co l W ((HG2.out.below hb).glob.sub (by simp)) HN.out (hro.below hb) (by omega))
  have KW := Lib.hid (fun (W : World) (hb : Below w2.heap.size w2 W) => who_any ea ao n co l (k : Int) W ((HG2.out.below hb).glob.sub (by simp)) HN.out (hro.below hb) (by omega))
  have KR := Lib.hid (fun (W : World) (hb : Below w2.heap.size w2 W) => round_any ea ao n co l (k : Int) W ((HG2.out.below hb).glob.sub (by simp)) HN.out (hro.below hb) (by omega))
  have KS := Lib.hid (fun (W : World) (hb : Below w2.heap.size w2 W) => share_any ea ao n co l node W ((HG2.out.below hb).glob.sub (by simp)) HN.out (hro.below hb) (by omega))
  have KN := Lib.hid (fun (W : World) (hb : Below w2.heap.size w2 W) => next_any ea ao n co l node (k : Int) W ((HG2.out.below hb).glob.sub (by simp)) HN.out (hro.below hb) (by omega))
  have RC := Lib.hid (fun (W : World) (hb : Below w2.heap.size w2 W) => refCrewOf_any a n cap l W HN.out (hr2.below hb) (by omega))
  have RS := Lib.hid (fun (W : World) (hb : Below w2.heap.size w2 W) => slotFault_any a n cap l (k : Int) W HN.out (hr2.below hb) (by omega))
  have RN := Lib.hid (fun (W : World) (hb : Below w2.heap.size w2 W) => refNext_any a n cap l node (k : Int) W HN.out (hr2.below hb) (by omega))
  have SI := Lib.hid (fun (W : World) (hb : Below w2.heap.size w2 W) => sameInts_any ao a n co n cap l l W HN.out (hro.below hb) HN.out (hr2.below hb) (by omega))
  have F1 := Lib.hid (fun (W : World) (v : Value) (hb : Below w2.heap.size w2 W) (hE : ErrIs ea W v (planF l).1 (planF l).2) => faulted1_same ea v _ _ W (HG2.out.below hb) hE hfl)
  have F2 := Lib.hid (fun (W : World) (v : Value) (hb : Below w2.heap.size w2 W) (hE : ErrIs ea W v (rightF l (k : Int)).1 (rightF l (k : Int)).2) => faulted1_same ea v _ _ W (HG2.out.below hb) hE hrl)
  have F3 := Lib.hid (fun (W : World) (v : Value) (hb : Below w2.heap.size w2 W) (hE : ErrIs ea W v (nextF l node (k : Int)).2.1 (nextF l node (k : Int)).2.2) => faulted1_same ea v _ _ W (HG2.out.below hb) hE hnl)
  rw [HCR.out] at KC
  rw [HSH.out] at KS
  rw [HWH.out] at KW
  rw [HRA.out, HRB.out] at KR
  clear hfl hrl hnl HCR HSH HWH HRA HRB
  rw [HF.out] at KC KK R2 F1
  rw [HRF.out] at KW KR RS F2
  rw [HCF.out] at RC
  clear HF HRF HCF
  simp only [Int.cast_ofNat_Int] at R2 F1 RS F2 RC
  generalize hq3 : ((nextF l node (k : Int)).2.1 : Int) = d at *
  generalize hq4 : (nextF l node (k : Int)).2.2 = dl at *
  generalize hq5 : (nextF l node (k : Int)).1 = x at *
  clear hq3 hq4 hq5
  refine (R2.out _ hw2).mono ?_
  rintro e w3 ⟨rfl, hb3⟩
  go_wp2_with fail
  refine (KC.out _ (hb3.alloc hb3.size _)).mono ?_
  rintro e w4 ⟨v4, rfl, hE4, hb4⟩
  obtain ⟨c0, c1, f0, f1, z4, hb34⟩ := own2 hb4
  have hv4 := onto hb3 hb34
  generalize hB : w3.heap.size = B at *
  have hB2 : w2.heap.size ≤ B := by rw [← hB]; exact hb3.size
  have HB := Lib.hid hB
  clear hB hb4 hb34
  go_wp2_with fail
  refine (RC.out _ hv4).mono ?_
  rintro e w4b ⟨rfl, hb4b⟩
  have hE4 := hE4.below hb4b
  obtain ⟨c0, c1, f0, f1, z4⟩ := keep2 hb4b z4 c0 c1 f0 f1
  have hv4 := onto hv4 hb4b
  have hx4 : Below w2.heap.size w2 w4b.drew := below_drewN hv4 1
  have hy4 : ErrIs ea w4b.drew v4 _ _ := hE4.below (below_drewN (Below.refl w4b.heap.size w4b) 1)
  go_wp2
  go_region_held3 (fun w' => w'.cell? ⟨B, 0, none⟩ = some (.int .i64 0) ∧ w'.cell? ⟨B, 1, none⟩ = some (.int .i64 (-1))) (go_keep)
    (first
      | (go_at_call 26; (with_reducible refine (KK.out _ hx4).mono ?_); rintro e w5 ⟨v5, rfl, hE5, hb5⟩; obtain ⟨k0, k1, g0, g1, z5⟩ := keep2 hb5 z4 c0 c1 f0 f1; have hv5 := onto hx4 hb5; have hE45 := hy4.below hb5)
      | (go_at_call 25; (with_reducible refine (F1.out _ v5 hv5 hE5).mono ?_); rintro e w6 ⟨rfl, hb6⟩; obtain ⟨k0, k1, g0, g1, z6⟩ := keep2 hb6 z5 k0 k1 g0 g1; have hv6 := onto hv5 hb6; have hE46 := hE45.below hb6)
      | (go_at_call 25; (with_reducible refine (F1.out _ v4 hv6 hE46).mono ?_); rintro e w7 ⟨rfl, hb7⟩; obtain ⟨k0, k1, g0, g1, z7⟩ := keep2 hb7 z6 k0 k1 g0 g1; have hv7 := onto hv6 hb7))
  go_wp2
  have hr7 := hr2.below hv7
  go_loop [13, 14] (fun m i => ∃ j : Nat, j ≤ n ∧ i = .int .i64 j ∧ m = .int .i64 ((l.take j).count node)) (fun _ i => n - (intOf i).toNat)
  case atStart => exact ⟨0, Nat.zero_le _, rfl, rfl⟩
  case round =>
    obtain ⟨j, hj, rfl, rfl⟩ := hrel
    by_cases hlt : j < n
    · have hjt : j < l.length := by have := HN.out; omega
      obtain ⟨b, off, rfl, hbl, q0⟩ := intD hr7 j hjt
      have HS := Lib.hid (count_snoc l node j hjt)
      have hle : ((l.take j).count node : Int) ≤ 40 := by have := List.count_le_length (a := node) (l := l.take j); have := List.length_take_le j l; omega
      have hge : (0 : Int) ≤ ((l.take j).count node : Int) := by omega
      generalize l.getD j 0 = y at *
      clear hjt
      cases hy : (y == node)
      all_goals
        have HY := Lib.hid hy
        go_wp2
        go_round
        case rel => exact ⟨j + 1, by omega, by go_num, by rw [HS.out, HY.out]; first | rfl | go_num⟩
        case measure => simp [intOf]; omega
    · have e1 : l.take j = l := List.take_of_length_le (by have := HN.out; omega)
      rw [e1]
      clear e1
      go_wp2_with fail
      refine (RS.out _ hv7).mono ?_
      rintro e w8 ⟨rfl, hb8⟩
      obtain ⟨k0, k1, g0, g1, z8⟩ := keep2 hb8 z7 k0 k1 g0 g1
      have hv8 := onto hv7 hb8
      obtain ⟨W9, hW9, k0, k1, g0, g1, z9, hb9⟩ := set2 (x := .int .i64 0) (y := .int .i64 (-1)) z8 k0 k1 g0 g1
      have hv9 := hb9 w2 hv8 hB2
      clear hb9
      obtain ⟨b, off, rfl, hbl, q2⟩ := intD hr2 (k % n) (by rw [HN.out]; exact hm1)
      have q0 := (hv8.cell (p := ⟨b, off + k % n, none⟩) hbl).trans q2
      have hne : ¬ b = B := by omega
      have hne2 : ¬ B = b := by omega
      have HWV : Hid (l.getD (k % n) 0 = whoV l k) := by unfold Hid; rw [whoV, HN.out]
      rw [HWV.out] at q0
      generalize whoV l k = wh at *
      go_wp2_with fail
      rw [← hW9]
      refine (KW.out _ hv9).mono ?_
      rintro e w10 ⟨v10, rfl, hE10, hb10⟩
      obtain ⟨k0, k1, g0, g1, z10⟩ := keep2 hb10 z9 k0 k1 g0 g1
      have hv10 := onto hv9 hb10
      go_wp2_with fail
      refine (KR.out _ hv10).mono ?_
      rintro e w11 ⟨v11, rfl, hE11, hb11⟩
      obtain ⟨k0, k1, g0, g1, z11⟩ := keep2 hb11 z10 k0 k1 g0 g1
      have hv11 := onto hv10 hb11
      have hE10 := hE10.below hb11
      go_wp2_with fail
      refine (F2.out _ v10 hv11 hE10).mono ?_
      rintro e w12 ⟨rfl, hb12⟩
      obtain ⟨k0, k1, g0, g1, z12⟩ := keep2 hb12 z11 k0 k1 g0 g1
      have hv12 := onto hv11 hb12
      have hE11 := hE11.below hb12
      go_wp2_with fail
      refine (F2.out _ v11 hv12 hE11).mono ?_
      rintro e w13 ⟨rfl, hb13⟩
      obtain ⟨k0, k1, g0, g1, z13⟩ := keep2 hb13 z12 k0 k1 g0 g1
      have hv13 := onto hv12 hb13
      go_wp2_with fail
      refine (KS.out _ hv13).mono ?_
      rintro e w14 ⟨rfl, hb14⟩
      obtain ⟨k0, k1, g0, g1, z14⟩ := keep2 hb14 z13 k0 k1 g0 g1
      have hv14 := onto hv13 hb14
      go_wp2_with fail
      refine (KN.out _ hv14).mono ?_
      rintro e w15 ⟨v15, rfl, hE15, hb15⟩
      obtain ⟨k0, k1, g0, g1, z15⟩ := keep2 hb15 z14 k0 k1 g0 g1
      have hv15 := onto hv14 hb15
      go_wp2_with fail
      refine (RN.out _ hv15).mono ?_
      rintro e w16 ⟨rfl, hb16⟩
      obtain ⟨k0, k1, g0, g1, z16⟩ := keep2 hb16 z15 k0 k1 g0 g1
      have hv16 := onto hv15 hb16
      have hE15 := (hE15.below hb16).set2 k1 (.int .i64 d) (.int .i64 dl)
      obtain ⟨W17, hW17, k0, k1, g0, g1, z17, hb17⟩ := set2 (x := .int .i64 d) (y := .int .i64 dl) z16 k0 k1 g0 g1
      have hv17 := hb17 w2 hv16 hB2
      rw [← hW17] at hE15
      clear hb17
      go_wp2_with fail
      rw [← hW17]
      refine (F3.out _ v15 hv17 hE15).mono ?_
      rintro e w18 ⟨rfl, hb18⟩
      have hv18 := onto hv17 hb18
      go_wp2_with fail
      refine (SI.out _ hv18).mono ?_
      rintro e w19 ⟨rfl, hb19⟩
      go_wp2
      go_ret
      exact ⟨rfl, onto hw2 (onto hv18 hb19)⟩

/-- The law's walk, whole. -/
theorem walk_PlanTells (ea : Nat → Addr) (a : Option Addr) (n cap : Nat) (l : List Int) (node slot : Int) (w : World) (hG : GlobC w ea)
    (hn : l.length = n) (hr : RowAt w a (encInts l)) (_hc : n ≤ cap) (hb : n ≤ 4611686018427387904) (_hx : -9223372036854775808 ≤ node ∧ node ≤ 9223372036854775807) (_hy : -9223372036854775808 ≤ slot ∧ slot ≤ 9223372036854775807) :
    Calls Tryd.prog 5 #[.slice a n cap, .int .i64 node, .int .i64 slot] w fun e w' => e = .returned (.bool true) ∧ Below w.heap.size w w' := by
  by_cases h : 40 < n
  · exact planTells_long ea a n cap node slot w hG hb h
  · by_cases h0 : (planF l).1 = 0
    · by_cases hs : (rightF l slot).1 = 0
      · obtain ⟨k, rfl⟩ : ∃ k : Nat, slot = k := ⟨slot.toNat, by have := (rightF_ok hs).2.1; omega⟩
        exact planTells_ok ea a n cap l node k w hG hn hr (by omega) h0 hs
      · exact planTells_slotbad ea a n cap l node slot w hG hn hr (by omega) h0 hs
    · exact planTells_bad ea a n cap l node slot w hG hn hr (by omega) h0
end Go.Proofs.YtmikeblbfmfimaaDoor
