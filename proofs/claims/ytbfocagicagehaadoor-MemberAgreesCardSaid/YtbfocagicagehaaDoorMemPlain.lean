/- A node comes into a crew and goes out of it: in plain Lean. -/
import Derived.Test.YtbfocagicagehaaDoorCrewPlain
namespace Go.Proofs.YtbfocagicagehaaDoor
open Go.RowKit

theorem or_has {c k : Nat} (h : c.testBit k = true) : c ||| 2 ^ k = c := by
  apply Nat.eq_of_testBit_eq
  intro i
  rw [Nat.testBit_or, Nat.testBit_two_pow]
  by_cases e : k = i
  · subst e; simp [h]
  · simp [e]
theorem or_new {c k : Nat} (h : c.testBit k = false) : c ||| 2 ^ k = c + 2 ^ k := by
  have hr : c % 2 ^ (k + 1) = c % 2 ^ k := by rw [mod_two_step, h]; simp
  have hp := Nat.two_pow_pos k
  have hlt : c % 2 ^ k < 2 ^ k := Nat.mod_lt _ hp
  have hc : c = 2 ^ (k + 1) * (c / 2 ^ (k + 1)) + c % 2 ^ k := by rw [← hr]; exact (Nat.div_add_mod _ _).symm
  generalize c / 2 ^ (k + 1) = q at hc
  generalize c % 2 ^ k = r at *
  have e1 := Nat.two_pow_add_eq_or_of_lt (i := k + 1) (b := r) (by rw [Nat.pow_succ]; omega) q
  have e2 := Nat.two_pow_add_eq_or_of_lt (i := k + 1) (b := 2 ^ k + r) (by rw [Nat.pow_succ]; omega) q
  have e3 := Nat.two_pow_add_eq_or_of_lt (i := k) (b := r) hlt 1
  rw [Nat.mul_one] at e3
  rw [hc, e1, Nat.or_assoc, Nat.or_comm r, ← e3, ← e2, ← e1]
  omega
theorem lessN_bit (a b i : Nat) : (lessN a b).testBit i = (a.testBit i && !b.testBit i) := by
  rw [lessN, Nat.testBit_xor, Nat.testBit_and]
  cases a.testBit i <;> cases b.testBit i <;> rfl
theorem less_or (c b : Nat) : lessN (c ||| b) b = lessN c b := by
  apply Nat.eq_of_testBit_eq
  intro i
  rw [lessN_bit, lessN_bit, Nat.testBit_or]
  cases c.testBit i <;> cases b.testBit i <;> rfl
theorem less_has {c k : Nat} (h : c.testBit k = true) : lessN c (2 ^ k) + 2 ^ k = c := by
  have h1 : (lessN c (2 ^ k)).testBit k = false := by rw [lessN_bit, Nat.testBit_two_pow]; simp
  rw [← or_new h1]
  apply Nat.eq_of_testBit_eq
  intro i
  rw [Nat.testBit_or, lessN_bit, Nat.testBit_two_pow]
  by_cases e : k = i
  · subst e; simp [h]
  · simp [e]
theorem less_new {c k : Nat} (h : c.testBit k = false) : lessN c (2 ^ k) = c := by
  apply Nat.eq_of_testBit_eq
  intro i
  rw [lessN_bit, Nat.testBit_two_pow]
  by_cases e : k = i
  · subst e; simp [h]
  · simp [e]
end Go.Proofs.YtbfocagicagehaaDoor
