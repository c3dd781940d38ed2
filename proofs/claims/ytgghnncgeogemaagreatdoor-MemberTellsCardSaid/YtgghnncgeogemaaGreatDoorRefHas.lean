/- the reference's IsCrew and HasNode. -/
import Derived.Test.YtgghnncgeogemaaGreatDoorRefBase
import Derived.Test.YtgghnncgeogemaaGreatDoorSumBits
import Derived.Test.YtgghnncgeogemaaGreatDoorCrewPlain
namespace Go.Proofs.YtgghnncgeogemaaGreatDoor
open Go.RowKit

theorem isCrew_any (c : Int) (w : World) : Calls Tryz.prog 39 #[.int .i64 c] w fun e w' => e = .returned (.bool (crewB c)) ∧ w = w' := by
  go_enter Tryz.func39, Tryz.ntmps39
  go_wp2
  all_goals (go_ret; exact ⟨ret_bool (by rw [Bool.eq_iff_iff]; simp [crewB]; try omega), rfl⟩)
theorem powerOf_any' (k : Nat) (w : World) (hk : k < 16) :
    Calls Tryz.prog 41 #[.int .i64 ((k : Int) + 1)] w fun e w' => e = .returned (.int .i64 (pw k)) ∧ w = w' := by
  go_enter Tryz.func41, Tryz.ntmps41
  go_wp2
  go_loop [3, 4] (fun p i => ∃ j : Nat, j ≤ k ∧ i = .int .i64 ((j : Int) + 1) ∧ p = .int .i64 (pw j)) (fun _ i => 17 - (intOf i).toNat)
  case atStart => exact ⟨0, Nat.zero_le _, by simp, by simp [pw]⟩
  case round =>
    obtain ⟨j, hj, rfl, rfl⟩ := hrel
    have hp := pw_le (k := j) (by omega)
    have HS := Lib.hid (pw_succ j)
    by_cases hlt : j < k
    · go_wp2
      go_round
      case rel => exact ⟨j + 1, by omega, by go_num, by rw [HS.out]; go_num⟩
      case measure => simp [intOf]; omega
    · obtain rfl : j = k := by omega
      go_wp2
      go_ret
      exact ⟨rfl, rfl⟩
theorem bit_div (c k : Nat) : ((((c / pw k % 2 : Nat) : Int)) == 1) = c.testBit k := by
  have h := Nat.toNat_testBit c k
  unfold pw
  rw [← h]
  cases c.testBit k <;> rfl
set_option maxHeartbeats 800000 in
theorem refHas_any (c n : Int) (w : World) : Calls Tryz.prog 8 #[.int .i64 c, .int .i64 n] w fun e w' => e = .returned (.bool (hasB c n)) ∧ w = w' := by
  have KC := Lib.hid (fun (W : World) => isCrew_any c W)
  have KN := Lib.hid (fun (W : World) => isNode_any n W)
  have hh : hasB c n = (crewB c && (nodeB n && c.toNat.testBit (n.toNat - 1))) := rfl
  cases hc : crewB c
  · have HX : Hid (hasB c n = false) := by unfold Hid; rw [hh, hc]; rfl
    rw [hc] at KC
    generalize nodeB n = b at *
    clear hh hc
    go_enter Tryz.func8, Tryz.ntmps8
    go_wp2_with (first
      | (go_at_call 39; refine (KC.out _).mono ?_; rintro e w1 ⟨rfl, rfl⟩)
      | (go_at_call 40; refine (KN.out _).mono ?_; rintro e w1 ⟨rfl, rfl⟩))
    go_ret
    exact ⟨ret_bool HX.out.symm, rfl⟩
  · cases hn : nodeB n
    · have HX : Hid (hasB c n = false) := by unfold Hid; rw [hh, hc, hn]; rfl
      rw [hc] at KC
      rw [hn] at KN
      clear hh hc hn
      go_enter Tryz.func8, Tryz.ntmps8
      go_wp2_with (first
        | (go_at_call 39; refine (KC.out _).mono ?_; rintro e w1 ⟨rfl, rfl⟩)
        | (go_at_call 40; refine (KN.out _).mono ?_; rintro e w1 ⟨rfl, rfl⟩))
      go_ret
      exact ⟨ret_bool HX.out.symm, rfl⟩
    · have hn' := hn
      simp only [nodeB, decide_eq_true_eq] at hn'
      obtain ⟨k, rfl⟩ : ∃ k : Nat, n = (k : Int) + 1 := ⟨(n - 1).toNat, by omega⟩
      obtain ⟨m, rfl⟩ : ∃ m : Nat, c = m := by simp only [crewB, decide_eq_true_eq] at hc; exact ⟨c.toNat, by omega⟩
      have hm : m < 65536 := by simp only [crewB, decide_eq_true_eq] at hc; omega
      have HX : Hid (hasB (m : Int) ((k : Int) + 1) = m.testBit k) := by unfold Hid; rw [hh, hc, hn, Bool.true_and, Bool.true_and]; congr 1
      have KP := Lib.hid (fun (W : World) => powerOf_any' k W (by omega))
      have hp := pw_le (k := k) (by omega)
      have hd := bit_div m k
      have e1 : (m : Int).tdiv (pw k : Int) = ((m / pw k : Nat) : Int) := (Int.ofNat_tdiv m (pw k)).symm
      have e2 : (((m / pw k : Nat) : Int)).tmod 2 = ((m / pw k % 2 : Nat) : Int) := (Int.ofNat_tmod _ 2).symm
      have hle : m / pw k ≤ 65536 := Nat.le_trans (Nat.div_le_self _ _) (by omega)
      have e3 : wrap64 ((m : Int) / (pw k : Int)) = ((m / pw k : Nat) : Int) := by
        rw [← Int.natCast_ediv]
        have h1 : ((m / pw k : Nat) : Int) ≤ 65536 := Int.ofNat_le.2 hle
        have h0 : 0 ≤ ((m / pw k : Nat) : Int) := Int.natCast_nonneg _
        clear e1 e2 hd
        unfold wrap64; omega
      rw [hc] at KC
      rw [hn] at KN
      clear hh hc hn
      generalize pw k = p at *
      have hp0 : (p : Int) ≠ 0 := by omega
      go_enter Tryz.func8, Tryz.ntmps8
      go_wp2_with (first
        | (go_at_call 39; refine (KC.out _).mono ?_; rintro e w1 ⟨rfl, rfl⟩)
        | (go_at_call 40; refine (KN.out _).mono ?_; rintro e w1 ⟨rfl, rfl⟩)
        | (go_at_call 41; refine (KP.out _).mono ?_; rintro e w1 ⟨rfl, rfl⟩))
      go_ret
      exact ⟨ret_bool (by rw [HX.out, ← hd]; show (((m : Int) / (p : Int)).tmod 2 == 1) = _; rw [← Int.natCast_ediv, e2]), rfl⟩
end Go.Proofs.YtgghnncgeogemaaGreatDoor
