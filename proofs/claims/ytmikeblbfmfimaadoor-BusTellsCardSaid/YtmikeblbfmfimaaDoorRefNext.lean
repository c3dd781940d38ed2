/- the reference's NextOf. -/
import Derived.Test.YtmikeblbfmfimaaDoorRefPlan
import Derived.Test.YtmikeblbfmfimaaDoorPlanAny
import Derived.Test.YtmikeblbfmfimaaDoorPlanPlain
namespace Go.Proofs.YtmikeblbfmfimaaDoor
open Go.RowKit

set_option maxHeartbeats 800000 in
theorem refNext_any (a : Option Addr) (n cap : Nat) (l : List Int) (node s : Int) (w : World) (hn : l.length = n) (hr : RowAt w a (encInts l)) (hc : n ≤ 4611686018427387904) :
    Calls Tryd.prog 32 #[.slice a n cap, .int .i64 node, .int .i64 s] w fun e w' => e = .returned (.tuple #[.int .i64 (nextF l node s).1, .agg #[.int .i64 (nextF l node s).2.1, .int .i64 (nextF l node s).2.2]]) ∧ Below w.heap.size w w' := by
  have hb0 : Below w.heap.size w (w.alloc (.cells #[.int .i64 0, .int .i64 0] 39)) := (Below.refl _ _).alloc (Nat.le_refl _) _
  have C := Lib.hid (slotFault_any a n cap l s _ hn (hr.below hb0) hc)
  by_cases h0 : (rightF l s).1 = 0
  · rw [rightF_zero h0] at C
    have e0 : (((0 : Nat), (-1 : Int)).1 : Int) = 0 := rfl
    have e1 : (((0 : Nat), (-1 : Int)).2 : Int) = -1 := rfl
    rw [e0, e1] at C
    clear e0 e1
    obtain ⟨k, rfl⟩ : ∃ k : Nat, s = k := ⟨s.toNat, by have := (rightF_ok h0).2.1; omega⟩
    have hl := (planF_ok (rightF_ok h0).1)
    have hs := (rightF_ok h0).2.2
    have hn0 : 0 < n := by omega
    have hn32 : n ≤ 32 := by omega
    have hnz : ((n : Int) == 0) = false := by simp; omega
    rcases first_or_none (fun j => whoV l (k + j) = node) n with ⟨m, hm, hw, hno⟩ | hno
    · have hF : Hid (nextF l node k = (((k + m : Nat) : Int), 0, -1)) := by unfold Hid; rw [nextF, if_pos h0, Int.toNat_natCast, nextAt_some (by omega) hw hno, Int.natCast_add]
      have hin : Hid (node ∈ l) := by unfold Hid; rw [← hw]; exact whoV_mem l (k + m) (by omega)
      have HN := Lib.hid hn
      have HW := Lib.hid hw
      have HNO := Lib.hid hno
      clear h0 hb0 hn hl hw hno
      go_enter Tryd.func32, Tryd.ntmps32
      go_wp2_with fail
      refine C.out.mono ?_
      rintro e w1 ⟨rfl, hb⟩
      obtain ⟨c0, c1, f0, f1, z1, hw1⟩ := own2 hb
      obtain ⟨R0, R1⟩ := res2 z1 c0 c1
      have hr1 := hr.below (hw1.alloc hw1.size (.cells #[.int .i64 0, .int .i64 (-1)] 39))
      go_wp2_with (go_at_call 72; refine (inInts_any _ _ _ _ l _ HN.out hr1 hc).mono ?_; rintro e w2 ⟨rfl, rfl⟩; rw [decide_eq_true hin.out])
      go_loop [2] (fun i => ∃ j : Nat, j ≤ m ∧ i = .int .i64 ((k : Int) + j)) (fun i => k + m + 1 - (intOf i).toNat)
      case atStart => exact ⟨0, Nat.zero_le _, by simp⟩
      case round =>
        obtain ⟨j, hj, rfl⟩ := hrel
        obtain ⟨b, off, rfl, hbl, q0⟩ := next_loop_cell k j hr1 HN.out hn0
        have hm1 := Nat.mod_lt (k + j) hn0
        have hm2 : 0 ≤ ((k : Int) + j) % n := Int.emod_nonneg _ (by omega)
        have hm3 : ((k : Int) + j) % n < n := Int.emod_lt_of_pos _ (by omega)
        by_cases hlt : j < m
        · have hx : (whoV l (k + j) == node) = false := by simpa using HNO.out j hlt
          have hx2 : (whoV l (k + j) != node) = true := by simpa using HNO.out j hlt
          generalize whoV l (k + j) = x at *
          go_wp2
          go_round
          case rel => exact ⟨j + 1, by omega, by go_num⟩
          case measure => simp [intOf]; omega
        · obtain rfl : j = m := by omega
          have hx : (whoV l (k + j) == node) = true := by simpa using HW.out
          have hx2 : (whoV l (k + j) != node) = false := by simpa using HW.out
          generalize whoV l (k + j) = x at *
          go_wp2
          go_region
          go_wp2
          refine bodyPost_ret (v := .tuple #[.int .i64 ((k : Int) + j), .agg #[.int .i64 0, .int .i64 (-1)]]) (by simp [results, Tryd.results32, go_sem, R0, R1]) rfl ?_
          rw [hF.out]
          exact ⟨by simp, below_drewN (((hw1.setCell (by simp) _).setCell (by simp) _).alloc (by simpa using hw1.size) _) 1⟩
    · have hF : Hid (nextF l node k = (0, 5, -1)) := by unfold Hid; rw [nextF, if_pos h0, Int.toNat_natCast, nextAt_none (by rw [hn]; exact hno)]
      have hin : Hid (¬ node ∈ l) := by
        unfold Hid; intro hm
        obtain ⟨j, hj, hw⟩ := mem_whoV l k (by omega) node hm
        exact hno j (by omega) hw
      have HN := Lib.hid hn
      clear h0 hb0 hn hl hno
      go_enter Tryd.func32, Tryd.ntmps32
      go_wp2_with fail
      refine C.out.mono ?_
      rintro e w1 ⟨rfl, hb⟩
      obtain ⟨c0, c1, f0, f1, z1, hw1⟩ := own2 hb
      have hr1 := hr.below (hw1.alloc hw1.size (.cells #[.int .i64 0, .int .i64 (-1)] 39))
      go_wp2_with (go_at_call 72; refine (inInts_any _ _ _ _ l _ HN.out hr1 hc).mono ?_; rintro e w2 ⟨rfl, rfl⟩; rw [decide_eq_false hin.out])
      refine (bare_any _ _).mono ?_
      rintro e w2 ⟨rfl, hb2⟩
      obtain ⟨d0, d1, g0, g1, z2⟩ := keep2 (past hb2) z1 c0 c1 f0 f1
      go_wp2
      refine bodyPost_ret (v := .tuple #[.int .i64 0, .agg #[.int .i64 5, .int .i64 (-1)]]) (by simp [results, Tryd.results32, go_sem, d0, d1]) rfl ?_
      rw [hF.out]
      exact ⟨rfl, ((hw1.trans ((past hb2).mono hw1.size)).setCell (by simp) _).setCell (by simp) _⟩
  · have hF : Hid (nextF l node s = (0, rightF l s)) := by unfold Hid; rw [nextF, if_neg h0]
    have hz : (0 : Int) < ((rightF l s).1 : Int) := by omega
    generalize hq1 : ((rightF l s).1 : Int) = c at *
    generalize hq2 : (rightF l s).2 = pl at *
    have HQ1 := Lib.hid hq1
    have HQ2 := Lib.hid hq2
    clear h0 hb0 hn hq1 hq2
    go_enter Tryd.func32, Tryd.ntmps32
    go_wp2_with fail
    refine C.out.mono ?_
    rintro e w1 ⟨rfl, hb⟩
    obtain ⟨c0, c1, f0, f1, z1, hw1⟩ := own2 hb
    obtain ⟨R0, R1⟩ := res2 z1 c0 c1
    go_wp2
    go_region
    go_wp2
    refine bodyPost_ret (v := .tuple #[.int .i64 0, .agg #[.int .i64 c, .int .i64 pl]]) (by simp [results, Tryd.results32, go_sem, R0, R1]) rfl ?_
    rw [hF.out, HQ1.out, HQ2.out]
    exact ⟨rfl, below_drewN (((hw1.setCell (by simp) _).setCell (by simp) _).alloc (by simpa using hw1.size) _) 1⟩
end Go.Proofs.YtmikeblbfmfimaaDoor
