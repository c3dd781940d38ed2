/- crew: Check, bit, Has, Of. -/
import Derived.Test.YtbfocagicagehaaDoorNode
namespace Go.Proofs.YtbfocagicagehaaDoor
open Go.RowKit

/-- crew.Check's error. -/
def crewE (c : Int) : Nat := if crewB c then 0 else 2
theorem crewCheck_any (ea : Nat → Addr) (c : Int) (w : World) (hg : Glob w ea [2]) :
    Calls Tryd.prog 30 #[.int .i64 c] w fun e w' => e = .returned (errV ea (crewE c)) ∧ w = w' := by
  have g2 := hg.cell 2 (by simp)
  simp only [gOf] at g2
  go_enter Tryd.func30, Tryd.ntmps30
  go_wp2
  all_goals
    go_ret
    first
      | refine ⟨ret_v (congrArg (errV ea) ?_), rfl⟩
      | refine ⟨ret_v (nil_errV ea ?_), rfl⟩
    clear hg g2
    first
      | (rw [crewE, if_pos (by simp [crewB] <;> omega)]; done)
      | (rw [crewE, if_neg (by simp [crewB] <;> omega)]; done)

theorem bit_any (n : Int) (w : World) (h : nodeB n = true) : Calls Tryd.prog 67 #[.int .i64 n] w fun e w' => e = .returned (.int .i64 (bitOf n)) ∧ w = w' := by
  simp only [nodeB, decide_eq_true_eq] at h
  have hc : n = 1 ∨ n = 2 ∨ n = 3 ∨ n = 4 ∨ n = 5 ∨ n = 6 ∨ n = 7 ∨ n = 8 ∨ n = 9 ∨ n = 10 ∨ n = 11 ∨ n = 12 ∨ n = 13 ∨ n = 14 ∨ n = 15 ∨ n = 16 := by omega
  rcases hc with rfl | rfl | rfl | rfl | rfl | rfl | rfl | rfl | rfl | rfl | rfl | rfl | rfl | rfl | rfl | rfl
  all_goals
    clear h
    go_enter Tryd.func67, Tryd.ntmps67
    go_wp2
    go_ret
    exact ⟨ret_int (by decide), rfl⟩

theorem has_any (ea : Nat → Addr) (c n : Int) (w : World) (hg : Glob w ea [2]) :
    Calls Tryd.prog 64 #[.int .i64 c, .int .i64 n] w fun e w' => e = .returned (.bool (hasB c n)) ∧ w = w' := by
  cases hc : crewB c
  · have he : errV ea (crewE c) = .iface 147 (.pointer (some (ea 2))) := by rw [crewE, hc]; exact errV_pos ea (by decide)
    have HE := Lib.hid he
    have HC := Lib.hid hc
    clear he hc
    go_enter Tryd.func64, Tryd.ntmps64
    go_wp2_with (go_at_call 30; refine (crewCheck_any ea _ _ hg).mono ?_; rintro e w' ⟨rfl, rfl⟩; rw [HE.out])
    go_ret
    exact ⟨ret_bool (by simp [hasB, HC.out]), rfl⟩
  · have he : errV ea (crewE c) = .nilIface := by rw [crewE, hc]; exact errV_zero ea
    have HE := Lib.hid he
    clear he
    obtain ⟨k, rfl⟩ : ∃ k : Nat, c = k := ⟨c.toNat, by simp [crewB] at hc; omega⟩
    have hk : k < 65536 := by simp [crewB] at hc; omega
    have HC := Lib.hid hc
    clear hc
    cases hn : nodeB n
    · have HN := Lib.hid hn
      clear hn
      go_enter Tryd.func64, Tryd.ntmps64
      go_wp2_with (first
        | (go_at_call 30; refine (crewCheck_any ea _ _ hg).mono ?_; rintro e w' ⟨rfl, rfl⟩; rw [HE.out])
        | (go_at_call 29; refine (node_any _ _).mono ?_; rintro e w' ⟨rfl, rfl⟩; rw [HN.out]))
      go_ret
      exact ⟨ret_bool (by simp [hasB, HN.out]), rfl⟩
    · have hb := bitOf_lt hn
      have hA : bits .and .i64 (k : Int) (bitOf n : Int) = ((k &&& bitOf n : Nat) : Int) := and_nat _ _ (by omega) (by omega)
      have hT : ((((k &&& bitOf n : Nat) : Int)) != 0) = k.testBit (n.toNat - 1) := by
        rw [bitOf, and_bit]; cases k.testBit (n.toNat - 1)
        · simp
        · have h2 := Nat.two_pow_pos (n.toNat - 1)
          rw [if_pos rfl]
          generalize 2 ^ (n.toNat - 1) = q at h2 ⊢
          rw [bne_iff_ne]
          omega
      have HN := Lib.hid hn
      clear hn
      go_enter Tryd.func64, Tryd.ntmps64
      go_wp2_with (first
        | (go_at_call 30; refine (crewCheck_any ea _ _ hg).mono ?_; rintro e w' ⟨rfl, rfl⟩; rw [HE.out])
        | (go_at_call 29; refine (node_any _ _).mono ?_; rintro e w' ⟨rfl, rfl⟩; rw [HN.out])
        | (go_at_call 67; refine (bit_any _ _ HN.out).mono ?_; rintro e w' ⟨rfl, rfl⟩))
      go_ret
      exact ⟨ret_bool (by simp [hasB, HN.out, HC.out]), rfl⟩

end Go.Proofs.YtbfocagicagehaaDoor
