/- the reference's SumOf, ViewError, FrameError, FrameText. -/
import Derived.Test.YtgghnncgeogemaaGreatDoorRefCrew
import Derived.Test.YtgghnncgeogemaaGreatDoorRefWords
import Derived.Test.YtgghnncgeogemaaGreatDoorSumPlain
import Derived.Test.YtgghnncgeogemaaGreatDoorMemSend
import Derived.Deep.RegionHeld3
import Derived.RegionTactic
namespace Go.Proofs.YtgghnncgeogemaaGreatDoor
open Go.RowKit

set_option maxHeartbeats 800000 in
theorem sumOf_any (s : List UInt8) (w : World) (hs : s.length ≤ 100000) :
    Calls Tryz.prog 87 #[.string ⟨s.toArray⟩] w fun e w' => e = .returned (.int .i64 (sumF s)) ∧ w = w' := by
  have HF := Lib.hid (refS_sum s)
  have HL := Lib.hid (fun l => refS_lt l)
  go_enter Tryz.func87, Tryz.ntmps87
  go_wp2
  go_loop [3, 4, 5] (fun p n i => ∃ k : Nat, k ≤ s.length ∧ i = .int .i64 ((k : Int) - 1) ∧ p = .int .i64 (refS (s.drop k)).2 ∧ n = .int .i64 (refS (s.drop k)).1) (fun _ _ i => (intOf i + 1).toNat)
  case atStart => exact ⟨s.length, Nat.le_refl _, by simp, by rw [List.drop_length]; rfl, by rw [List.drop_length]; rfl⟩
  case round =>
    obtain ⟨k, hk, rfl, rfl, rfl⟩ := hrel
    have hl := HL.out (s.drop k)
    by_cases hk0 : k = 0
    · subst hk0
      rw [List.drop_zero] at *
      generalize (refS s).1 = n at *
      generalize (refS s).2 = p at *
      go_wp2
      go_ret
      exact ⟨by rw [← HF.out]; rfl, rfl⟩
    · obtain ⟨q, rfl⟩ : ∃ q, k = q + 1 := ⟨k - 1, by omega⟩
      have hq1 : q < s.length := by omega
      have hgq := ba_get s q hq1
      have hdr : refS (s.drop q) = (((refS (s.drop (q + 1))).1 + (refS (s.drop (q + 1))).2 * (s[q].toNat + 1)) % 65521, (refS (s.drop (q + 1))).2 * 257 % 65521) := by
        rw [List.drop_eq_getElem_cons hq1]; rfl
      have HD1 := Lib.hid (congrArg Prod.fst hdr)
      have HD2 := Lib.hid (congrArg Prod.snd hdr)
      clear hdr hk0
      have e1 : ((q + 1 : Nat) : Int) - 1 = (q : Int) := by omega
      rw [e1]
      generalize (refS (s.drop (q + 1))).1 = n at *
      generalize (refS (s.drop (q + 1))).2 = p at *
      have hu : s[q].toNat < 256 := UInt8.toNat_lt _
      generalize s[q] = y at *
      obtain ⟨P, hP⟩ : ∃ P : Nat, P = p * (y.toNat + 1) := ⟨_, rfl⟩
      have hPb : P ≤ 65521 * 256 := by rw [hP]; exact Nat.mul_le_mul (by omega) (by omega)
      have hPi : (p : Int) * ((y.toNat : Int) + 1) = (P : Int) := by rw [hP]; push_cast; rfl
      rw [← hP] at HD1
      clear hP
      go_wp2
      go_round
      case rel => exact ⟨q, by omega, by go_num, by rw [HD2.out]; go_num, by rw [HD1.out]; go_num⟩
      case measure => simp [intOf] <;> omega

set_option maxHeartbeats 800000 in
theorem viewError_any (m d s : Int) (w : World) :
    Calls Tryz.prog 33 #[.agg #[.int .i64 m, .int .i64 d, .int .i64 s]] w fun e w' => e = .returned (.int .i64 (viewE m d s)) ∧ Below w.heap.size w w' := by
  have hb0 : Below w.heap.size w (w.alloc (.cells #[.int .i64 m, .int .i64 d, .int .i64 s] 49)) := (Below.refl _ _).alloc (Nat.le_refl _) _
  have KC := Lib.hid (fun (W : World) => isCrew_any m W)
  cases hm : crewB m
  · have HX : Hid (viewE m d s = 2) := by unfold Hid; rw [viewE, hm]; rfl
    rw [hm] at KC
    clear hm
    go_enter Tryz.func33, Tryz.ntmps33
    go_wp2_with fail
    refine (KC.out _).mono ?_
    rintro e w1 ⟨rfl, rfl⟩
    go_wp2
    go_ret
    exact ⟨by rw [HX.out]; rfl, hb0⟩
  · rw [hm] at KC
    have HV : Hid (viewE m d s = if viewB d s then 0 else 2) := by unfold Hid; rw [viewE, hm]; rfl
    clear hm
    by_cases h1 : d < 0
    · have HX : Hid (viewE m d s = 2) := by unfold Hid; rw [HV.out, if_neg (by simp [viewB]; omega)]
      clear HV
      go_enter Tryz.func33, Tryz.ntmps33
      go_wp2_with fail
      refine (KC.out _).mono ?_
      rintro e w1 ⟨rfl, rfl⟩
      go_wp2
      go_ret
      exact ⟨by rw [HX.out]; rfl, hb0⟩
    · have d1 : decide (d < 0) = false := by simpa using h1
      by_cases h2 : 3 < d
      · have HX : Hid (viewE m d s = 2) := by unfold Hid; rw [HV.out, if_neg (by simp [viewB]; omega)]
        clear HV
        go_enter Tryz.func33, Tryz.ntmps33
        go_wp2_with fail
        refine (KC.out _).mono ?_
        rintro e w1 ⟨rfl, rfl⟩
        go_wp2
        go_ret
        exact ⟨by rw [HX.out]; rfl, hb0⟩
      · have d2 : decide (3 < d) = false := by simpa using h2
        by_cases h3 : s < 0
        · have HX : Hid (viewE m d s = 2) := by unfold Hid; rw [HV.out, if_neg (by simp [viewB]; omega)]
          clear HV
          go_enter Tryz.func33, Tryz.ntmps33
          go_wp2_with fail
          refine (KC.out _).mono ?_
          rintro e w1 ⟨rfl, rfl⟩
          go_wp2
          go_ret
          exact ⟨by rw [HX.out]; rfl, hb0⟩
        · have d3 : decide (s < 0) = false := by simpa using h3
          by_cases h4 : 1000000 < s
          · have HX : Hid (viewE m d s = 2) := by unfold Hid; rw [HV.out, if_neg (by simp [viewB]; omega)]
            clear HV
            go_enter Tryz.func33, Tryz.ntmps33
            go_wp2_with fail
            refine (KC.out _).mono ?_
            rintro e w1 ⟨rfl, rfl⟩
            go_wp2
            go_ret
            exact ⟨by rw [HX.out]; rfl, hb0⟩
          · have d4 : decide (1000000 < s) = false := by simpa using h4
            have HX : Hid (viewE m d s = 0) := by unfold Hid; rw [HV.out, if_pos (by simp [viewB]; omega)]
            clear HV
            go_enter Tryz.func33, Tryz.ntmps33
            go_wp2_with fail
            refine (KC.out _).mono ?_
            rintro e w1 ⟨rfl, rfl⟩
            go_wp2
            go_ret
            exact ⟨by rw [HX.out]; rfl, hb0⟩

set_option maxHeartbeats 1600000 in
theorem frameError_any (f1 f2 f3 f4 f5 : Int) (w : World) :
    Calls Tryz.prog 88 #[.agg #[.int .i64 f1, .int .i64 f2, .int .i64 f3, .int .i64 f4, .int .i64 f5]] w fun e w' => e = .returned (.int .i64 (frameE ⟨f1, f2, f3, f4, f5⟩)) ∧ Below w.heap.size w w' := by
  have hb0 : Below w.heap.size w (w.alloc (.cells #[.int .i64 f1, .int .i64 f2, .int .i64 f3, .int .i64 f4, .int .i64 f5] 88)) := (Below.refl _ _).alloc (Nat.le_refl _) _
  have KN := Lib.hid (fun (W : World) => isNode_any f1 W)
  have KC := Lib.hid (fun (W : World) => isCrew_any f2 W)
  have KH := Lib.hid (fun (W : World) => refHas_any f2 f1 W)
  have KV := Lib.hid (fun (W : World) => viewError_any f2 f3 f4 W)
  have b0 := Blok.new w 88 #[.int .i64 f1, .int .i64 f2, .int .i64 f3, .int .i64 f4, .int .i64 f5]
  cases hn : nodeB f1
  · have HX : Hid (frameE ⟨f1, f2, f3, f4, f5⟩ = 4) := by unfold Hid; simp only [frameE, hn]; rfl
    rw [hn] at KN
    generalize crewB f2 = cb at *
    generalize hasB f2 f1 = hb at *
    clear hn
    go_enter Tryz.func88, Tryz.ntmps88
    go_wp2_with fail
    refine (KN.out _).mono ?_
    rintro e w1 ⟨rfl, rfl⟩
    go_wp2_with fail
    refine (KC.out _).mono ?_
    rintro e w1 ⟨rfl, rfl⟩
    go_wp2_with fail
    refine (KH.out _).mono ?_
    rintro e w1 ⟨rfl, rfl⟩
    go_wp2
    go_ret
    exact ⟨by rw [HX.out]; rfl, hb0⟩
  · cases hc : crewB f2
    · have HX : Hid (frameE ⟨f1, f2, f3, f4, f5⟩ = 2) := by unfold Hid; simp only [frameE, hn, hc]; rfl
      rw [hn] at KN
      rw [hc] at KC
      generalize hasB f2 f1 = hb at *
      clear hn hc
      go_enter Tryz.func88, Tryz.ntmps88
      go_wp2_with fail
      refine (KN.out _).mono ?_
      rintro e w1 ⟨rfl, rfl⟩
      go_wp2_with fail
      refine (KC.out _).mono ?_
      rintro e w1 ⟨rfl, rfl⟩
      go_wp2_with fail
      refine (KH.out _).mono ?_
      rintro e w1 ⟨rfl, rfl⟩
      go_wp2
      go_ret
      exact ⟨by rw [HX.out]; rfl, hb0⟩
    · cases hh : hasB f2 f1
      · have HX : Hid (frameE ⟨f1, f2, f3, f4, f5⟩ = 3) := by unfold Hid; simp only [frameE, hn, hc, hh]; rfl
        rw [hn] at KN
        rw [hc] at KC
        rw [hh] at KH
        clear hn hc hh
        go_enter Tryz.func88, Tryz.ntmps88
        go_wp2_with fail
        refine (KN.out _).mono ?_
        rintro e w1 ⟨rfl, rfl⟩
        go_wp2_with fail
        refine (KC.out _).mono ?_
        rintro e w1 ⟨rfl, rfl⟩
        go_wp2_with fail
        refine (KH.out _).mono ?_
        rintro e w1 ⟨rfl, rfl⟩
        go_wp2
        go_ret
        exact ⟨by rw [HX.out]; rfl, hb0⟩
      · have hE : frameE ⟨f1, f2, f3, f4, f5⟩ = if viewB f3 f4 && numB f5 then 0 else 2 := by simp only [frameE, hn, hc, hh, if_true]
        have hVE : viewE f2 f3 f4 = if viewB f3 f4 then 0 else 2 := by rw [viewE, hc]; rfl
        rw [hn] at KN
        rw [hc] at KC
        rw [hh] at KH
        clear hn hc hh
        cases hv : viewB f3 f4
        · have HX : Hid (frameE ⟨f1, f2, f3, f4, f5⟩ = 2) := by unfold Hid; rw [hE, hv]; rfl
          rw [hVE, hv] at KV
          clear hE hVE hv
          go_enter Tryz.func88, Tryz.ntmps88
          go_wp2_with fail
          refine (KN.out _).mono ?_
          rintro e w1 ⟨rfl, rfl⟩
          go_wp2_with fail
          refine (KC.out _).mono ?_
          rintro e w1 ⟨rfl, rfl⟩
          go_wp2_with fail
          refine (KH.out _).mono ?_
          rintro e w1 ⟨rfl, rfl⟩
          go_wp2_with fail
          refine (KV.out _).mono ?_
          rintro e w2 ⟨rfl, hb2⟩
          have bF := b0.kept hb2
          have c4 := bF.cell 4 rfl
          go_wp2
          go_ret
          exact ⟨by rw [HX.out]; rfl, hb0.trans (hb2.mono hb0.size)⟩
        · rw [hVE, hv] at KV
          by_cases h1 : f5 < -1048576
          · have HX : Hid (frameE ⟨f1, f2, f3, f4, f5⟩ = 2) := by unfold Hid; rw [hE, if_neg (by simp [numB]; omega)]
            clear hE hVE hv
            go_enter Tryz.func88, Tryz.ntmps88
            go_wp2_with fail
            refine (KN.out _).mono ?_
            rintro e w1 ⟨rfl, rfl⟩
            go_wp2_with fail
            refine (KC.out _).mono ?_
            rintro e w1 ⟨rfl, rfl⟩
            go_wp2_with fail
            refine (KH.out _).mono ?_
            rintro e w1 ⟨rfl, rfl⟩
            go_wp2_with fail
            refine (KV.out _).mono ?_
            rintro e w2 ⟨rfl, hb2⟩
            have bF := b0.kept hb2
            have c4 := bF.cell 4 rfl
            go_wp2
            go_ret
            exact ⟨by rw [HX.out]; rfl, hb0.trans (hb2.mono hb0.size)⟩
          · have d1 : decide (f5 < -1048576) = false := by simpa using h1
            by_cases h2 : 1048576 < f5
            · have HX : Hid (frameE ⟨f1, f2, f3, f4, f5⟩ = 2) := by unfold Hid; rw [hE, if_neg (by simp [numB]; omega)]
              clear hE hVE hv
              go_enter Tryz.func88, Tryz.ntmps88
              go_wp2_with fail
              refine (KN.out _).mono ?_
              rintro e w1 ⟨rfl, rfl⟩
              go_wp2_with fail
              refine (KC.out _).mono ?_
              rintro e w1 ⟨rfl, rfl⟩
              go_wp2_with fail
              refine (KH.out _).mono ?_
              rintro e w1 ⟨rfl, rfl⟩
              go_wp2_with fail
              refine (KV.out _).mono ?_
              rintro e w2 ⟨rfl, hb2⟩
              have bF := b0.kept hb2
              have c4 := bF.cell 4 rfl
              go_wp2
              go_ret
              exact ⟨by rw [HX.out]; rfl, hb0.trans (hb2.mono hb0.size)⟩
            · have d2 : decide (1048576 < f5) = false := by simpa using h2
              have HX : Hid (frameE ⟨f1, f2, f3, f4, f5⟩ = 0) := by unfold Hid; rw [hE, hv, if_pos (by simp [numB]; omega)]
              clear hE hVE hv
              go_enter Tryz.func88, Tryz.ntmps88
              go_wp2_with fail
              refine (KN.out _).mono ?_
              rintro e w1 ⟨rfl, rfl⟩
              go_wp2_with fail
              refine (KC.out _).mono ?_
              rintro e w1 ⟨rfl, rfl⟩
              go_wp2_with fail
              refine (KH.out _).mono ?_
              rintro e w1 ⟨rfl, rfl⟩
              go_wp2_with fail
              refine (KV.out _).mono ?_
              rintro e w2 ⟨rfl, hb2⟩
              have bF := b0.kept hb2
              have c4 := bF.cell 4 rfl
              go_wp2
              go_ret
              exact ⟨by rw [HX.out]; rfl, hb0.trans (hb2.mono hb0.size)⟩

theorem frameBody_eq (f1 f2 f3 f4 f5 : Int) : frameBody ⟨f1, f2, f3, f4, f5⟩ = [102, 114, 97, 109, 101, 32] ++ Lib.itoa f1 ++ [32] ++ textF f2 ++ [32] ++ Lib.itoa f3 ++ [32] ++ Lib.itoa f4 ++ [32] ++ Lib.itoa f5 := by
  simp only [frameBody, frameW, joinL, List.append_assoc, List.cons_append, List.nil_append]

set_option maxRecDepth 400000 in
set_option maxHeartbeats 3200000 in
theorem frameText_ok (f1 f2 f3 f4 f5 : Int) (w : World) (h : frameE ⟨f1, f2, f3, f4, f5⟩ = 0) :
    Calls Tryz.prog 65 #[.agg #[.int .i64 f1, .int .i64 f2, .int .i64 f3, .int .i64 f4, .int .i64 f5]] w fun e w' => e = .returned (.tuple #[.string ⟨(frameT ⟨f1, f2, f3, f4, f5⟩).toArray⟩, .int .i64 0]) ∧ Below w.heap.size w w' := by
  have hb0 : Below w.heap.size w (w.alloc (.cells #[.int .i64 f1, .int .i64 f2, .int .i64 f3, .int .i64 f4, .int .i64 f5] 88)) := (Below.refl _ _).alloc (Nat.le_refl _) _
  have KE := Lib.hid (fun (W : World) => frameError_any f1 f2 f3 f4 f5 W)
  rw [h] at KE
  have hlen := frameBody_len h
  have hsm := sumF_lt (frameBody ⟨f1, f2, f3, f4, f5⟩)
  obtain ⟨h1, h2, h3, h4, h5⟩ := frameE_zero h
  simp only [nodeB, viewB, numB, decide_eq_true_eq] at h1 h4 h5
  have HFT : Hid (frameT ⟨f1, f2, f3, f4, f5⟩ = frameBody ⟨f1, f2, f3, f4, f5⟩ ++ 32 :: Lib.itoa (sumF (frameBody ⟨f1, f2, f3, f4, f5⟩))) := rfl
  have HB := Lib.hid (frameBody_eq f1 f2 f3 f4 f5)
  have l1 := Lib.itoa_length_le f1 (by omega) (by omega)
  have l2 := textF_len f2
  have l3 := Lib.itoa_length_le f3 (by omega) (by omega)
  have l4 := Lib.itoa_length_le f4 (by omega) (by omega)
  have l5 := Lib.itoa_length_le f5 (by omega) (by omega)
  have K1 := Lib.hid (fun (W : World) => decimal_any f1 W (by omega))
  have K2 := Lib.hid (fun (W : World) => crewText_any f2 W)
  have K3 := Lib.hid (fun (W : World) => decimal_any f3 W (by omega))
  have K4 := Lib.hid (fun (W : World) => decimal_any f4 W (by omega))
  have K5 := Lib.hid (fun (W : World) => signed_any f5 W (by omega))
  have KS := Lib.hid (fun (W : World) => sumOf_any (frameBody ⟨f1, f2, f3, f4, f5⟩) W (by omega))
  have KD := Lib.hid (fun (W : World) => decimal_any (sumF (frameBody ⟨f1, f2, f3, f4, f5⟩)) W (by omega))
  have lsm := Lib.itoa_length_le (sumF (frameBody ⟨f1, f2, f3, f4, f5⟩) : Int) (by omega) (by omega)
  generalize Lib.itoa (sumF (frameBody ⟨f1, f2, f3, f4, f5⟩) : Int) = si at *
  generalize Lib.itoa f1 = t1 at *
  generalize textF f2 = t2 at *
  generalize Lib.itoa f3 = t3 at *
  generalize Lib.itoa f4 = t4 at *
  generalize Lib.itoa f5 = t5 at *
  have hfb : (frameBody ⟨f1, f2, f3, f4, f5⟩).length ≤ 1000 := hlen
  generalize frameBody ⟨f1, f2, f3, f4, f5⟩ = body at *
  obtain ⟨S1, hS1⟩ : ∃ S, S = [102, 114, 97, 109, 101, 32] ++ t1 := ⟨_, rfl⟩
  have q1 := run_adds' [102, 114, 97, 109, 101, 32] t1 (by simp; omega)
  have m1 : S1.length ≤ 60 := by rw [hS1]; simp; omega
  rw [← hS1] at q1
  obtain ⟨S2, hS2⟩ : ∃ S, S = S1 ++ [32] := ⟨_, rfl⟩
  have q2 := run_adds' S1 [32] (by simp; omega)
  have m2 : S2.length ≤ 61 := by rw [hS2]; simp; omega
  rw [← hS2] at q2
  obtain ⟨S3, hS3⟩ : ∃ S, S = S2 ++ t2 := ⟨_, rfl⟩
  have q3 := run_adds' S2 t2 (by omega)
  have m3 : S3.length ≤ 500 := by rw [hS3]; simp; omega
  rw [← hS3] at q3
  obtain ⟨S4, hS4⟩ : ∃ S, S = S3 ++ [32] := ⟨_, rfl⟩
  have q4 := run_adds' S3 [32] (by simp; omega)
  have m4 : S4.length ≤ 501 := by rw [hS4]; simp; omega
  rw [← hS4] at q4
  obtain ⟨S5, hS5⟩ : ∃ S, S = S4 ++ t3 := ⟨_, rfl⟩
  have q5 := run_adds' S4 t3 (by omega)
  have m5 : S5.length ≤ 550 := by rw [hS5]; simp; omega
  rw [← hS5] at q5
  obtain ⟨S6, hS6⟩ : ∃ S, S = S5 ++ [32] := ⟨_, rfl⟩
  have q6 := run_adds' S5 [32] (by simp; omega)
  have m6 : S6.length ≤ 551 := by rw [hS6]; simp; omega
  rw [← hS6] at q6
  obtain ⟨S7, hS7⟩ : ∃ S, S = S6 ++ t4 := ⟨_, rfl⟩
  have q7 := run_adds' S6 t4 (by omega)
  have m7 : S7.length ≤ 600 := by rw [hS7]; simp; omega
  rw [← hS7] at q7
  obtain ⟨S8, hS8⟩ : ∃ S, S = S7 ++ [32] := ⟨_, rfl⟩
  have q8 := run_adds' S7 [32] (by simp; omega)
  have m8 : S8.length ≤ 601 := by rw [hS8]; simp; omega
  rw [← hS8] at q8
  have hS9 : body = S8 ++ t5 := by rw [HB.out, hS8, hS7, hS6, hS5, hS4, hS3, hS2, hS1]
  have q9 := run_adds' S8 t5 (by omega)
  rw [← hS9] at q9
  obtain ⟨SA, hSA⟩ : ∃ S, S = body ++ [32] := ⟨_, rfl⟩
  have qA := run_adds' body [32] (by simp; omega)
  have mA : SA.length ≤ 1001 := by rw [hSA]; simp; omega
  rw [← hSA] at qA
  obtain ⟨SB, hSB⟩ : ∃ S, S = SA ++ si := ⟨_, rfl⟩
  have qB := run_adds' SA si (by omega)
  rw [← hSB] at qB
  have HSB : Hid (frameT ⟨f1, f2, f3, f4, f5⟩ = SB) := by unfold Hid; rw [HFT.out, hSB, hSA]; simp
  clear h h1 h2 h3 h4 h5 hS1 hS2 hS3 hS4 hS5 hS6 hS7 hS8 hS9 hSA hSB m1 m2 m3 m4 m5 m6 m7 m8 mA l1 l2 l3 l4 l5 lsm hlen hfb hsm HB HFT
  go_enter Tryz.func65, Tryz.ntmps65
  go_wp2_with fail
  refine (KE.out _).mono ?_
  rintro e w1 ⟨rfl, hb1⟩
  have hz : w.heap.size < w1.drew.heap.size := by have := hb1.size; simp at this; exact this
  have hv : Below w.heap.size w w1.drew := (hb0.trans (hb1.mono (by simp))).drew
  have k0 : w1.drew.cell? ⟨w.heap.size, 0, none⟩ = some (.int .i64 f1) := (hb1.cell (p := ⟨w.heap.size, 0, none⟩) (by simp)).trans (by simp)
  have k1 : w1.drew.cell? ⟨w.heap.size, 1, none⟩ = some (.int .i64 f2) := (hb1.cell (p := ⟨w.heap.size, 1, none⟩) (by simp)).trans (by simp)
  have k2 : w1.drew.cell? ⟨w.heap.size, 2, none⟩ = some (.int .i64 f3) := (hb1.cell (p := ⟨w.heap.size, 2, none⟩) (by simp)).trans (by simp)
  have k3 : w1.drew.cell? ⟨w.heap.size, 3, none⟩ = some (.int .i64 f4) := (hb1.cell (p := ⟨w.heap.size, 3, none⟩) (by simp)).trans (by simp)
  have k4 : w1.drew.cell? ⟨w.heap.size, 4, none⟩ = some (.int .i64 f5) := (hb1.cell (p := ⟨w.heap.size, 4, none⟩) (by simp)).trans (by simp)
  have A1 := Lib.hid (K1.out w1.drew)
  clear hb1 hb0
  go_wp2
  go_region_held3 (fun w' => w'.cell? ⟨w.heap.size, 0, none⟩ = some (.int .i64 f1) ∧ w'.cell? ⟨w.heap.size, 1, none⟩ = some (.int .i64 f2) ∧ w'.cell? ⟨w.heap.size, 2, none⟩ = some (.int .i64 f3) ∧ w'.cell? ⟨w.heap.size, 3, none⟩ = some (.int .i64 f4) ∧ w'.cell? ⟨w.heap.size, 4, none⟩ = some (.int .i64 f5)) (go_keep)
    (first
      | (go_at_call 49; (with_reducible refine A1.out.mono ?_); rintro e w2 ⟨rfl, hb2⟩; have hv2 := hv.trans (hb2.mono hv.size); have k0 := (hb2.cell (p := ⟨w.heap.size, 0, none⟩) hz).trans k0; have k1 := (hb2.cell (p := ⟨w.heap.size, 1, none⟩) hz).trans k1; have k2 := (hb2.cell (p := ⟨w.heap.size, 2, none⟩) hz).trans k2; have k3 := (hb2.cell (p := ⟨w.heap.size, 3, none⟩) hz).trans k3; have k4 := (hb2.cell (p := ⟨w.heap.size, 4, none⟩) hz).trans k4; have hz2 := Nat.lt_of_lt_of_le hz hb2.size; have A2 := Lib.hid (K2.out w2); clear hb2)
      | (go_at_call 16; (with_reducible refine A2.out.mono ?_); rintro e w3 ⟨rfl, hb2⟩; have hv3 := hv2.trans (hb2.mono hv2.size); have k0 := (hb2.cell (p := ⟨w.heap.size, 0, none⟩) hz2).trans k0; have k1 := (hb2.cell (p := ⟨w.heap.size, 1, none⟩) hz2).trans k1; have k2 := (hb2.cell (p := ⟨w.heap.size, 2, none⟩) hz2).trans k2; have k3 := (hb2.cell (p := ⟨w.heap.size, 3, none⟩) hz2).trans k3; have k4 := (hb2.cell (p := ⟨w.heap.size, 4, none⟩) hz2).trans k4; have hz3 := Nat.lt_of_lt_of_le hz2 hb2.size; have A3 := Lib.hid (K3.out w3); clear hb2)
      | (go_at_call 49; (with_reducible refine A3.out.mono ?_); rintro e w4 ⟨rfl, hb2⟩; have hv4 := hv3.trans (hb2.mono hv3.size); have k0 := (hb2.cell (p := ⟨w.heap.size, 0, none⟩) hz3).trans k0; have k1 := (hb2.cell (p := ⟨w.heap.size, 1, none⟩) hz3).trans k1; have k2 := (hb2.cell (p := ⟨w.heap.size, 2, none⟩) hz3).trans k2; have k3 := (hb2.cell (p := ⟨w.heap.size, 3, none⟩) hz3).trans k3; have k4 := (hb2.cell (p := ⟨w.heap.size, 4, none⟩) hz3).trans k4; have hz4 := Nat.lt_of_lt_of_le hz3 hb2.size; have A4 := Lib.hid (K4.out w4); clear hb2)
      | (go_at_call 49; (with_reducible refine A4.out.mono ?_); rintro e w5 ⟨rfl, hb2⟩; have hv5 := hv4.trans (hb2.mono hv4.size); have k0 := (hb2.cell (p := ⟨w.heap.size, 0, none⟩) hz4).trans k0; have k1 := (hb2.cell (p := ⟨w.heap.size, 1, none⟩) hz4).trans k1; have k2 := (hb2.cell (p := ⟨w.heap.size, 2, none⟩) hz4).trans k2; have k3 := (hb2.cell (p := ⟨w.heap.size, 3, none⟩) hz4).trans k3; have k4 := (hb2.cell (p := ⟨w.heap.size, 4, none⟩) hz4).trans k4; have hz5 := Nat.lt_of_lt_of_le hz4 hb2.size; have A5 := Lib.hid (K5.out w5); clear hb2)
      | (go_at_call 89; (with_reducible refine A5.out.mono ?_); rintro e w6 ⟨rfl, hb2⟩; have hv6 := hv5.trans (hb2.mono hv5.size); have k0 := (hb2.cell (p := ⟨w.heap.size, 0, none⟩) hz5).trans k0; have k1 := (hb2.cell (p := ⟨w.heap.size, 1, none⟩) hz5).trans k1; have k2 := (hb2.cell (p := ⟨w.heap.size, 2, none⟩) hz5).trans k2; have k3 := (hb2.cell (p := ⟨w.heap.size, 3, none⟩) hz5).trans k3; have k4 := (hb2.cell (p := ⟨w.heap.size, 4, none⟩) hz5).trans k4; have hz6 := Nat.lt_of_lt_of_le hz5 hb2.size; clear hb2))
  clear k0 k1 k2 k3 k4 A1 A2 A3 A4 A5
  go_wp2_with fail
  refine (KS.out _).mono ?_
  rintro e w8 ⟨rfl, rfl⟩
  go_wp2_with fail
  refine (KD.out _).mono ?_
  rintro e w9 ⟨rfl, hb9⟩
  go_wp2
  go_ret2
  exact ⟨by rw [HSB.out]; rfl, hv6.trans (hb9.mono hv6.size)⟩
theorem frameText_any (f1 f2 f3 f4 f5 : Int) (w : World) :
    Calls Tryz.prog 65 #[.agg #[.int .i64 f1, .int .i64 f2, .int .i64 f3, .int .i64 f4, .int .i64 f5]] w fun e w' => e = .returned (.tuple #[.string ⟨(makeF ⟨f1, f2, f3, f4, f5⟩).toArray⟩, .int .i64 (frameE ⟨f1, f2, f3, f4, f5⟩)]) ∧ Below w.heap.size w w' := by
  by_cases h : frameE ⟨f1, f2, f3, f4, f5⟩ = 0
  · rw [makeF, if_pos h, h]
    exact frameText_ok f1 f2 f3 f4 f5 w h
  · rw [makeF, if_neg h]
    have hb0 : Below w.heap.size w (w.alloc (.cells #[.int .i64 f1, .int .i64 f2, .int .i64 f3, .int .i64 f4, .int .i64 f5] 88)) := (Below.refl _ _).alloc (Nat.le_refl _) _
    have KE := Lib.hid (fun (W : World) => frameError_any f1 f2 f3 f4 f5 W)
    have hp : (0 : Int) < (frameE ⟨f1, f2, f3, f4, f5⟩ : Int) := by omega
    generalize (frameE ⟨f1, f2, f3, f4, f5⟩ : Int) = c at *
    clear h
    go_enter Tryz.func65, Tryz.ntmps65
    go_wp2_with fail
    refine (KE.out _).mono ?_
    rintro e w1 ⟨rfl, hb1⟩
    go_wp2
    go_ret2
    exact ⟨rfl, hb0.trans (hb1.mono hb0.size)⟩
end Go.Proofs.YtgghnncgeogemaaGreatDoor
