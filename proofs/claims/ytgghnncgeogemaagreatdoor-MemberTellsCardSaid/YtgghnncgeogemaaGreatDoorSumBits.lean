/- Crews as sums of bits. No program in sight. -/
import Derived.Test.YtgghnncgeogemaaGreatDoorLib
namespace Go.Proofs.YtgghnncgeogemaaGreatDoor

def pw (k : Nat) : Nat := 2 ^ k
theorem pw_succ (k : Nat) : pw (k + 1) = 2 * pw k := by unfold pw; rw [Nat.pow_succ]; omega
theorem pw_le {k : Nat} (h : k ≤ 16) : 1 ≤ pw k ∧ pw k ≤ 65536 := by
  unfold pw; exact ⟨Nat.one_le_two_pow, by have := Nat.pow_le_pow_right (n := 2) (by omega) h; simpa using this⟩

/-- The sum of those bits below k for which p holds. -/
def sumBits (p : Nat → Bool) : Nat → Nat
  | 0 => 0
  | k + 1 => sumBits p k + if p k then pw k else 0
theorem sumBits_lt (p : Nat → Bool) : ∀ k, sumBits p k < 2 ^ k
  | 0 => by simp [sumBits]
  | k + 1 => by
    have h := sumBits_lt p k
    rw [sumBits, Nat.pow_succ]; unfold pw
    split <;> omega
theorem testBit_sumBits (p : Nat → Bool) (i : Nat) : ∀ k, (sumBits p k).testBit i = (decide (i < k) && p i)
  | 0 => by simp [sumBits]
  | k + 1 => by
    have h := sumBits_lt p k
    have ih := testBit_sumBits p i k
    rw [sumBits]
    rcases Nat.lt_trichotomy i k with hlt | rfl | hgt
    · have e1 : decide (i < k + 1) = true := by simp; omega
      have e2 : decide (i < k) = true := by simpa using hlt
      rw [e1]; rw [e2] at ih
      split
      · unfold pw; rw [Nat.add_comm, Nat.testBit_two_pow_add_gt hlt]; exact ih
      · exact ih
    · have e1 : decide (i < i + 1) = true := by simp
      rw [e1, Bool.true_and]
      cases hp : p i
      · simp only [Bool.false_eq_true, if_false, Nat.add_zero]; exact Nat.testBit_lt_two_pow h
      · simp only [if_true]; unfold pw; rw [Nat.add_comm, Nat.testBit_two_pow_add_eq, Nat.testBit_lt_two_pow h]; rfl
    · have e1 : decide (i < k + 1) = false := by simp; omega
      rw [e1, Bool.false_and]
      refine Nat.testBit_lt_two_pow (Nat.lt_of_lt_of_le ?_ (Nat.pow_le_pow_right (by omega) hgt))
      rw [Nat.succ_eq_add_one, Nat.pow_succ]; unfold pw
      split <;> omega
theorem sumBits_eq {p : Nat → Bool} {k x : Nat} (hx : x < 2 ^ k) (h : ∀ i, i < k → x.testBit i = p i) : sumBits p k = x := by
  apply Nat.eq_of_testBit_eq
  intro i
  rw [testBit_sumBits]
  by_cases hi : i < k
  · simp [hi, h i hi]
  · simp only [hi, decide_false, Bool.false_and]
    exact (Nat.testBit_lt_two_pow (Nat.lt_of_lt_of_le hx (Nat.pow_le_pow_right (by omega) (by omega)))).symm

/-- The crew of right nodes is the sum of the bits of those that are among them. -/
theorem crewOf_sum {l : List Int} (h : ∀ n ∈ l, nodeB n = true) : sumBits (fun i => decide (((i : Int) + 1) ∈ l)) 16 = crewOf l := by
  refine sumBits_eq (crewOf_lt h) fun i hi => ?_
  have hb := hasB_crewOf h ((i : Int) + 1)
  have hl := crewOf_lt h
  have hc : crewB ((crewOf l : Nat) : Int) = true := by simp only [crewB, decide_eq_true_eq]; omega
  have hn : nodeB ((i : Int) + 1) = true := by simp only [nodeB, decide_eq_true_eq]; omega
  rw [hasB, hc, hn, Bool.true_and, Bool.true_and, Int.toNat_natCast, show ((i : Int) + 1).toNat - 1 = i by omega] at hb
  exact hb
end Go.Proofs.YtgghnncgeogemaaGreatDoor
