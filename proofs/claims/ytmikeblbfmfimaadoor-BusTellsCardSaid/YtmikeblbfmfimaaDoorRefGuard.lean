/- the reference's TickError, PassFault, WaitOf. -/
import Derived.Test.YtmikeblbfmfimaaDoorRefPlan
import Derived.Test.YtmikeblbfmfimaaDoorGuardAny
import Derived.Test.YtmikeblbfmfimaaDoorRefNext
namespace Go.Proofs.YtmikeblbfmfimaaDoor
open Go.RowKit

theorem tickError_any (long tick : Int) (w : World) : Calls Tryd.prog 34 #[.int .i64 long, .int .i64 tick] w fun e w' => e = .returned (.int .i64 (slotE long tick)) ∧ w = w' := by
  by_cases h : slotE long tick = 0
  · obtain ⟨h1, h2, h3, h4⟩ := slotE_ok h
    have H := Lib.hid h
    clear h
    go_enter Tryd.func34, Tryd.ntmps34
    go_wp2
    go_ret
    rw [H.out]
    exact ⟨rfl, rfl⟩
  · have H := Lib.hid (slotE_bad h).1
    have h2 := (slotE_bad h).2
    clear h
    go_enter Tryd.func34, Tryd.ntmps34
    go_wp2
    all_goals (go_ret; rw [H.out]; first | exact ⟨rfl, rfl⟩ | omega)

set_option maxRecDepth 100000 in
set_option maxHeartbeats 800000 in
theorem passFault_any (a : Option Addr) (n cap : Nat) (l : List Int) (long node tick : Int) (w : World) (hn : l.length = n) (hr : RowAt w a (encInts l)) (hc : n ≤ 4611686018427387904) :
    Calls Tryd.prog 37 #[.slice a n cap, .int .i64 long, .int .i64 node, .int .i64 tick] w fun e w' => e = .returned (.agg #[.int .i64 (passF l long node tick).1, .int .i64 (passF l long node tick).2]) ∧ Below w.heap.size w w' := by
  have hb0 : Below w.heap.size w (w.alloc (.cells #[.int .i64 0, .int .i64 0] 39)) := (Below.refl _ _).alloc (Nat.le_refl _) _
  have C := Lib.hid (planFault_any a n cap l _ hn (hr.below hb0) hc)
  have T := Lib.hid (fun W => tickError_any long tick W)
  by_cases h : slotE long tick = 0
  · rw [h] at T
    simp only [Int.cast_ofNat_Int] at T
    obtain ⟨h1, h2, h3, h4⟩ := slotE_ok h
    by_cases hp : (planF l).1 = 0
    · have hF := planF_ok hp
      rw [hF.1] at C
      simp only [Int.cast_ofNat_Int] at C
      obtain ⟨s, hs, hs1⟩ := slot_nat h
      have hl0 : 0 < n := by omega
      have hl32 : n ≤ 32 := by omega
      have hnz : ((n : Int) == 0) = false := by simp; omega
      have hlz : (long == 0) = false := by simp; omega
      have hm1 := Nat.mod_lt s hl0
      have hm2 : 0 ≤ (s : Int) % n := Int.emod_nonneg _ (by omega)
      have hm3 : (s : Int) % n < n := Int.emod_lt_of_pos _ (by omega)
      obtain ⟨b, off, rfl, hbl, q0⟩ := intD hr (s % n) (by rw [hn]; exact hm1)
      have hV : Hid (whoV l s = l.getD (s % n) 0) := by unfold Hid; rw [whoV, hn]
      have hP : Hid (passF l long node tick = if l.getD (s % n) 0 = node then (0, -1) else (9, -1)) := by
        unfold Hid; rw [passF, if_neg (by simp [h]), if_neg (by simp [hp]), hs, Int.toNat_natCast, hV.out]
      have HS := Lib.hid hs
      clear h hp hF hb0 hn hs
      generalize l.getD (s % n) 0 = x at *
      by_cases hx : x = node
      · have hxb : (x != node) = false := by simp [hx]
        have HX := Lib.hid hx
        clear hx
        go_enter Tryd.func37, Tryd.ntmps37
        go_wp2_with (go_at_call 34; refine (T.out _).mono ?_; rintro e w1 ⟨rfl, rfl⟩)
        refine C.out.mono ?_
        rintro e w1 ⟨rfl, hb⟩
        obtain ⟨c0, c1, f0, f1, z1, hw1⟩ := own2 hb
        obtain ⟨R0, R1⟩ := res2 z1 c0 c1
        have q1 := ((hw1.alloc hw1.size (.cells #[.int .i64 0, .int .i64 (-1)] 39)).cell (p := ⟨b, off + s % n, none⟩) hbl).trans q0
        have hs := HS.out
        go_wp2
        refine bodyPost_ret (v := .agg #[.int .i64 0, .int .i64 (-1)]) (by simp [results, Tryd.results37, go_sem, R0, R1]) rfl ?_
        rw [hP.out, if_pos HX.out]
        exact ⟨rfl, ((hw1.setCell (by simp) _).setCell (by simp) _).alloc (by simpa using hw1.size) _⟩
      · have hxb : (x != node) = true := by simp [hx]
        have HX := Lib.hid hx
        clear hx
        go_enter Tryd.func37, Tryd.ntmps37
        go_wp2_with (go_at_call 34; refine (T.out _).mono ?_; rintro e w1 ⟨rfl, rfl⟩)
        refine C.out.mono ?_
        rintro e w1 ⟨rfl, hb⟩
        obtain ⟨c0, c1, f0, f1, z1, hw1⟩ := own2 hb
        have q1 := ((hw1.alloc hw1.size (.cells #[.int .i64 0, .int .i64 (-1)] 39)).cell (p := ⟨b, off + s % n, none⟩) hbl).trans q0
        have hs := HS.out
        go_wp2_with fail
        refine (bare_any _ _).mono ?_
        rintro e w2 ⟨rfl, hb2⟩
        obtain ⟨d0, d1, g0, g1, z2⟩ := keep2 (past hb2) z1 c0 c1 f0 f1
        obtain ⟨_, _, r0, r1, z3, hw2⟩ := own2 hb2
        go_wp2
        refine bodyPost_ret (v := .agg #[.int .i64 9, .int .i64 (-1)]) (by simp [results, Tryd.results37, go_sem, d0, d1]) rfl ?_
        rw [hP.out, if_neg HX.out]
        have hs1 := hw1.size
        exact ⟨rfl, ((((hw1.trans ((past hb2).mono hw1.size)).setCell (by simpa using hs1) _).setCell (by simpa using hs1) _).setCell (by simp) _).setCell (by simp) _⟩
    · have hP : Hid (passF l long node tick = planF l) := by unfold Hid; rw [passF, if_neg (by simp [h]), if_pos hp]
      have hz : (((planF l).1 : Int) == 0) = false := by simp; omega
      generalize hq1 : ((planF l).1 : Int) = c at *
      generalize hq2 : (planF l).2 = pl at *
      have HQ1 := Lib.hid hq1
      have HQ2 := Lib.hid hq2
      clear h hp hb0 hn hq1 hq2
      go_enter Tryd.func37, Tryd.ntmps37
      go_wp2_with (go_at_call 34; refine (T.out _).mono ?_; rintro e w1 ⟨rfl, rfl⟩)
      refine C.out.mono ?_
      rintro e w1 ⟨rfl, hb⟩
      obtain ⟨c0, c1, f0, f1, z1, hw1⟩ := own2 hb
      obtain ⟨R0, R1⟩ := res2 z1 c0 c1
      go_wp2
      refine bodyPost_ret (v := .agg #[.int .i64 c, .int .i64 pl]) (by simp [results, Tryd.results37, go_sem, R0, R1]) rfl ?_
      rw [hP.out, HQ1.out, HQ2.out]
      exact ⟨rfl, ((hw1.setCell (by simp) _).setCell (by simp) _).alloc (by simpa using hw1.size) _⟩
  · have h2 := (slotE_bad h).1
    rw [h2] at T
    simp only [Int.cast_ofNat_Int] at T
    have hP : Hid (passF l long node tick = (2, -1)) := by unfold Hid; rw [passF, if_pos h]
    clear h h2 hb0
    go_enter Tryd.func37, Tryd.ntmps37
    go_wp2_with (go_at_call 34; refine (T.out _).mono ?_; rintro e w1 ⟨rfl, rfl⟩)
    refine (bare_any _ _).mono ?_
    rintro e w1 ⟨rfl, hb⟩
    obtain ⟨c0, c1, f0, f1, z1, hw1⟩ := own2 hb
    go_wp2
    refine bodyPost_ret (v := .agg #[.int .i64 2, .int .i64 (-1)]) (by simp [results, Tryd.results37, go_sem, c0, c1]) rfl ?_
    rw [hP.out]
    exact ⟨rfl, (hw1.setCell (by simp) _).setCell (by simp) _⟩

set_option maxRecDepth 100000 in
set_option maxHeartbeats 1600000 in
theorem refWait_any (a : Option Addr) (n cap : Nat) (l : List Int) (long node tick : Int) (w : World) (hn : l.length = n) (hr : RowAt w a (encInts l)) (hc : n ≤ 4611686018427387904) :
    Calls Tryd.prog 39 #[.slice a n cap, .int .i64 long, .int .i64 node, .int .i64 tick] w fun e w' => e = .returned (.tuple #[.int .i64 (waitF l long node tick).1, .agg #[.int .i64 (waitF l long node tick).2.1, .int .i64 (waitF l long node tick).2.2]]) ∧ Below w.heap.size w w' := by
  have hb0 : Below w.heap.size w (w.alloc (.cells #[.int .i64 0, .int .i64 0] 39)) := (Below.refl _ _).alloc (Nat.le_refl _) _
  have T := Lib.hid (fun W => tickError_any long tick W)
  by_cases h : slotE long tick = 0
  · rw [h] at T
    simp only [Int.cast_ofNat_Int] at T
    obtain ⟨h1, h2, h3, h4⟩ := slotE_ok h
    have hlz : (long == 0) = false := by simp; omega
    obtain ⟨s, hs, hs1⟩ := slot_nat h
    have hd1 : 0 ≤ tick / long := by omega
    have hd2 : tick / long ≤ 1000000 := by omega
    have C := Lib.hid (refNext_any a n cap l node (tick / long) _ hn (hr.below hb0) hc)
    by_cases hx : (nextF l node (tick / long)).2.1 = 0
    · have hR : (rightF l (tick / long)).1 = 0 := by
        by_cases hq : (rightF l (tick / long)).1 = 0
        · exact hq
        · rw [nextF, if_neg hq] at hx; exact absurd hx hq
      have hl := planF_ok (rightF_ok hR).1
      have hpl : (nextF l node (tick / long)).2.2 = -1 := by
        rw [nextF, if_pos hR] at hx ⊢
        split at hx <;> simp at hx ⊢
      have hnx : 0 ≤ (nextF l node (tick / long)).1 ∧ (nextF l node (tick / long)).1 ≤ 1000040 := by
        rw [nextF, if_pos hR, hs, Int.toNat_natCast] at hx ⊢
        rcases first_or_none (fun j => whoV l (s + j) = node) l.length with ⟨m, hm, hw, hno⟩ | hno
        · rw [nextAt_some hm hw hno]; exact ⟨by simp; omega, by simp; omega⟩
        · rw [nextAt_none hno] at hx; simp at hx
      rw [hx, hpl] at C
      simp only [Int.cast_ofNat_Int] at C
      have hWF : Hid (waitF l long node tick = if 1000000 < max tick ((nextF l node (tick / long)).1 * long) then (0, 2, -1) else (max tick ((nextF l node (tick / long)).1 * long), 0, -1)) := by
        unfold Hid; rw [waitF, if_neg (by simp [h]), if_neg (by simp [hx])]
      clear h hx hpl hR hl hn hs
      generalize (nextF l node (tick / long)).1 = x at *
      have hp := prod_le hnx.1 (by omega) h1 h2
      obtain ⟨hx0, hx1⟩ := hnx
      by_cases hgt : tick < x * long
      · by_cases hf : 1000000 < x * long
        · have hW : Hid (waitF l long node tick = (0, 2, -1)) := by unfold Hid; rw [hWF.out, Int.max_eq_right (by omega), if_pos hf]
          have HP := Lib.hid hp
          obtain ⟨hp0, hp1⟩ := hp
          clear hb0
          go_enter Tryd.func39, Tryd.ntmps39
          go_wp2_with (go_at_call 34; refine (T.out _).mono ?_; rintro e w1 ⟨rfl, rfl⟩)
          refine C.out.mono ?_
          rintro e w1 ⟨rfl, hb⟩
          obtain ⟨c0, c1, f0, f1, z1, hw1⟩ := own2 hb
          go_wp2_with fail
          refine (bare_any _ _).mono ?_
          rintro e w2 ⟨rfl, hb2⟩
          obtain ⟨d0, d1, g0, g1, z2⟩ := keep2 (past hb2) z1 c0 c1 f0 f1
          go_wp2
          refine bodyPost_ret (v := .tuple #[.int .i64 0, .agg #[.int .i64 2, .int .i64 (-1)]]) (by simp [results, Tryd.results39, go_sem, d0, d1]) rfl ?_
          rw [hW.out]
          exact ⟨rfl, ((hw1.trans ((past hb2).mono hw1.size)).setCell (by simp) _).setCell (by simp) _⟩
        · have hW : Hid (waitF l long node tick = (x * long, 0, -1)) := by unfold Hid; rw [hWF.out, Int.max_eq_right (by omega), if_neg hf]
          obtain ⟨hp0, hp1⟩ := hp
          clear hb0
          go_enter Tryd.func39, Tryd.ntmps39
          go_wp2_with (go_at_call 34; refine (T.out _).mono ?_; rintro e w1 ⟨rfl, rfl⟩)
          refine C.out.mono ?_
          rintro e w1 ⟨rfl, hb⟩
          obtain ⟨c0, c1, f0, f1, z1, hw1⟩ := own2 hb
          obtain ⟨R0, R1⟩ := res2 z1 c0 c1
          go_wp2
          go_region
          go_wp2
          refine bodyPost_ret (v := .tuple #[.int .i64 (x * long), .agg #[.int .i64 0, .int .i64 (-1)]]) (by simp [results, Tryd.results39, go_sem, R0, R1]) rfl ?_
          rw [hW.out]
          exact ⟨rfl, below_drewN (((hw1.setCell (by simp) _).setCell (by simp) _).alloc (by simpa using hw1.size) _) 1⟩
      · have hW : Hid (waitF l long node tick = (tick, 0, -1)) := by unfold Hid; rw [hWF.out, Int.max_eq_left (by omega), if_neg (by omega)]
        obtain ⟨hp0, hp1⟩ := hp
        clear hb0
        go_enter Tryd.func39, Tryd.ntmps39
        go_wp2_with (go_at_call 34; refine (T.out _).mono ?_; rintro e w1 ⟨rfl, rfl⟩)
        refine C.out.mono ?_
        rintro e w1 ⟨rfl, hb⟩
        obtain ⟨c0, c1, f0, f1, z1, hw1⟩ := own2 hb
        obtain ⟨R0, R1⟩ := res2 z1 c0 c1
        go_wp2
        go_region
        go_wp2
        refine bodyPost_ret (v := .tuple #[.int .i64 tick, .agg #[.int .i64 0, .int .i64 (-1)]]) (by simp [results, Tryd.results39, go_sem, R0, R1]) rfl ?_
        rw [hW.out]
        exact ⟨rfl, below_drewN (((hw1.setCell (by simp) _).setCell (by simp) _).alloc (by simpa using hw1.size) _) 1⟩
    · have hW : Hid (waitF l long node tick = (0, (nextF l node (tick / long)).2)) := by unfold Hid; rw [waitF, if_neg (by simp [h]), if_pos hx]
      have hz : (0 : Int) < ((nextF l node (tick / long)).2.1 : Int) := by omega
      clear h hx hn hs hb0
      generalize hq1 : ((nextF l node (tick / long)).2.1 : Int) = c at *
      generalize hq2 : (nextF l node (tick / long)).2.2 = pl at *
      generalize hq3 : (nextF l node (tick / long)).1 = x at *
      have HQ1 := Lib.hid hq1
      have HQ2 := Lib.hid hq2
      clear hq1 hq2 hq3
      go_enter Tryd.func39, Tryd.ntmps39
      go_wp2_with (go_at_call 34; refine (T.out _).mono ?_; rintro e w1 ⟨rfl, rfl⟩)
      refine C.out.mono ?_
      rintro e w1 ⟨rfl, hb⟩
      obtain ⟨c0, c1, f0, f1, z1, hw1⟩ := own2 hb
      obtain ⟨R0, R1⟩ := res2 z1 c0 c1
      go_wp2
      go_region
      go_wp2
      refine bodyPost_ret (v := .tuple #[.int .i64 0, .agg #[.int .i64 c, .int .i64 pl]]) (by simp [results, Tryd.results39, go_sem, R0, R1]) rfl ?_
      rw [hW.out, ← HQ1.out, ← HQ2.out]
      exact ⟨rfl, below_drewN (((hw1.setCell (by simp) _).setCell (by simp) _).alloc (by simpa using hw1.size) _) 1⟩
  · have h2 := (slotE_bad h).1
    rw [h2] at T
    simp only [Int.cast_ofNat_Int] at T
    have hP : Hid (waitF l long node tick = (0, 2, -1)) := by unfold Hid; rw [waitF, if_pos h]
    clear h h2 hb0
    go_enter Tryd.func39, Tryd.ntmps39
    go_wp2_with (go_at_call 34; refine (T.out _).mono ?_; rintro e w1 ⟨rfl, rfl⟩)
    refine (bare_any _ _).mono ?_
    rintro e w1 ⟨rfl, hb⟩
    obtain ⟨c0, c1, f0, f1, z1, hw1⟩ := own2 hb
    go_wp2
    refine bodyPost_ret (v := .tuple #[.int .i64 0, .agg #[.int .i64 2, .int .i64 (-1)]]) (by simp [results, Tryd.results39, go_sem, c0, c1]) rfl ?_
    rw [hP.out]
    exact ⟨rfl, (hw1.setCell (by simp) _).setCell (by simp) _⟩
end Go.Proofs.YtmikeblbfmfimaaDoor
