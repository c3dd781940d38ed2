/- math/bits.OnesCount of a crew; crew.Many. -/
import Derived.Test.YtbfocagicagehaaDoorCrewIter
namespace Go.Proofs.YtbfocagicagehaaDoor
open Go.RowKit

/-- How many bits below k. -/
def popTo (c : Nat) : Nat → Nat
  | 0 => 0
  | k + 1 => popTo c k + c / 2 ^ k % 2
def pop (c : Nat) : Nat := popTo c 16

/-- The library's way: in parallel. -/
def onesA (x : Nat) : Nat := (x / 2 &&& 6148914691236517205) + (x &&& 6148914691236517205)
def onesB (x : Nat) : Nat := (x / 4 &&& 3689348814741910323) + (x &&& 3689348814741910323)
def onesC (x : Nat) : Nat := (x / 16 + x) &&& 1085102592571150095
def onesD (k x : Nat) : Nat := x + x / k
def onesR (x : Nat) : Nat := onesD 4294967296 (onesD 65536 (onesD 256 (onesC x))) &&& 127
def t1 (x : Nat) : Nat := (x / 2 &&& 85) + (x &&& 85)
def t2 (x : Nat) : Nat := (x / 4 &&& 51) + (x &&& 51)
theorem and_split (k a b M N : Nat) (hb : b < 2 ^ k) (hN : N < 2 ^ k) : (2 ^ k * a + b) &&& (2 ^ k * M + N) = 2 ^ k * (a &&& M) + (b &&& N) := by
  have hbn : b &&& N < 2 ^ k := Nat.and_lt_two_pow _ hN
  apply Nat.eq_of_testBit_eq
  intro i
  rw [Nat.testBit_and, Nat.testBit_two_pow_mul_add _ hb, Nat.testBit_two_pow_mul_add _ hN, Nat.testBit_two_pow_mul_add _ hbn]
  split
  · rw [Nat.testBit_and]
  · rw [Nat.testBit_and]
theorem and_low (x M N : Nat) (hx : x < 65536) (hN : N < 65536) : x &&& (65536 * M + N) = x &&& N := by
  have := and_split 16 0 x M N (by simpa using hx) (by simpa using hN)
  simpa using this
theorem t1_half : ∀ r : Fin 2, ∀ b : Fin 256, (r.val * 128 + b.val / 2) &&& 85 = b.val / 2 &&& 85 := by decide +kernel
theorem t2_half : ∀ r : Fin 4, ∀ b : Fin 256, (r.val * 64 + b.val / 4) &&& 51 = b.val / 4 &&& 51 := by decide +kernel
theorem t12 : ∀ b : Fin 256, t1 b.val < 256 ∧ t2 (t1 b.val) / 16 < 5 ∧ t2 (t1 b.val) % 16 < 5 ∧ t2 (t1 b.val) / 16 + t2 (t1 b.val) % 16 = popTo b.val 8 := by decide +kernel
theorem onesR_fin : ∀ a b c d : Fin 5, onesR (256 * (16 * a.val + b.val) + (16 * c.val + d.val)) = (a.val + b.val) + (c.val + d.val) := by decide +kernel
theorem onesA_split (a b : Nat) (ha : a < 256) (hb : b < 256) : onesA (256 * a + b) = 256 * t1 a + t1 b := by
  have h1 := and_split 8 a b 85 85 hb (by decide)
  have h2 := and_split 8 (a / 2) (a % 2 * 128 + b / 2) 85 85 (by omega) (by decide)
  have h3 := t1_half ⟨a % 2, by omega⟩ ⟨b, hb⟩
  have e1 := and_low (256 * a + b) 93824992236885 21845 (by omega) (by decide)
  have e2 := and_low ((256 * a + b) / 2) 93824992236885 21845 (by omega) (by decide)
  simp only [Nat.reducePow, Nat.reduceMul, Nat.reduceAdd] at h1 h2 e1 e2 h3
  rw [onesA, e1, e2, show (256 * a + b) / 2 = 256 * (a / 2) + (a % 2 * 128 + b / 2) by omega, h1, h2, h3, t1, t1]
  omega
theorem onesB_split (a b : Nat) (ha : a < 256) (hb : b < 256) : onesB (256 * a + b) = 256 * t2 a + t2 b := by
  have h1 := and_split 8 a b 51 51 hb (by decide)
  have h2 := and_split 8 (a / 4) (a % 4 * 64 + b / 4) 51 51 (by omega) (by decide)
  have h3 := t2_half ⟨a % 4, by omega⟩ ⟨b, hb⟩
  have e1 := and_low (256 * a + b) 56294995342131 13107 (by omega) (by decide)
  have e2 := and_low ((256 * a + b) / 4) 56294995342131 13107 (by omega) (by decide)
  simp only [Nat.reducePow, Nat.reduceMul, Nat.reduceAdd] at h1 h2 e1 e2 h3
  rw [onesB, e1, e2, show (256 * a + b) / 4 = 256 * (a / 4) + (a % 4 * 64 + b / 4) by omega, h1, h2, h3, t2, t2]
  omega
theorem popTo_low (a b : Nat) (hb : b < 2 ^ 8) : ∀ k, k ≤ 8 → popTo (2 ^ 8 * a + b) k = popTo b k
  | 0, _ => rfl
  | k + 1, h => by
    rw [popTo, popTo, popTo_low a b hb k (by omega), ← Nat.toNat_testBit, ← Nat.toNat_testBit, Nat.testBit_two_pow_mul_add _ hb, if_pos (by omega)]
theorem popTo_high (a b : Nat) (hb : b < 2 ^ 8) : ∀ k, popTo (2 ^ 8 * a + b) (8 + k) = popTo b 8 + popTo a k
  | 0 => popTo_low a b hb 8 (Nat.le_refl _)
  | k + 1 => by
    show popTo (2 ^ 8 * a + b) (8 + k) + (2 ^ 8 * a + b) / 2 ^ (8 + k) % 2 = popTo b 8 + (popTo a k + a / 2 ^ k % 2)
    rw [popTo_high a b hb k, ← Nat.toNat_testBit, ← Nat.toNat_testBit, Nat.testBit_two_pow_mul_add _ hb, if_neg (by omega), show 8 + k - 8 = k by omega]
    omega
theorem ones_pop (c : Nat) (hc : c < 65536) : onesR (onesB (onesA c)) = pop c ∧ onesA c ≤ 65535 ∧ onesB (onesA c) ≤ 65535 := by
  obtain ⟨a, b, ha, hb, rfl⟩ : ∃ a b, a < 256 ∧ b < 256 ∧ c = 256 * a + b := ⟨c / 256, c % 256, by omega, by omega, by omega⟩
  obtain ⟨a1, a2, a2', a3⟩ := t12 ⟨a, ha⟩
  obtain ⟨b1, b2, b2', b3⟩ := t12 ⟨b, hb⟩
  simp only at a1 a2 a2' a3 b1 b2 b2' b3
  have hR := onesR_fin ⟨_, a2⟩ ⟨_, a2'⟩ ⟨_, b2⟩ ⟨_, b2'⟩
  simp only at hR
  rw [Nat.div_add_mod, Nat.div_add_mod, a3, b3] at hR
  have hp := popTo_high a b (by simpa using hb) 8
  simp only [Nat.reducePow, Nat.reduceAdd] at hp
  rw [onesA_split a b ha hb, onesB_split _ _ a1 b1, hR, pop, hp]
  exact ⟨Nat.add_comm _ _, by omega, by omega⟩
theorem and_u64 (a b : Nat) (ha : a < 9223372036854775808) (hb : b < 9223372036854775808) : bits .and .u64 (a : Int) (b : Int) = ((a &&& b : Nat) : Int) := by
  have hx : a &&& b < 2 ^ 63 := Nat.and_lt_two_pow _ (by omega)
  show IntKind.u64.wrap ((BitVec.ofInt 64 (a : Int) &&& BitVec.ofInt 64 (b : Int)).toNat : Int) = _
  rw [BitVec.toNat_and, ofInt_nat a ha, ofInt_nat b hb]
  unfold IntKind.wrap
  simp [IntKind.signed, IntKind.bits]
  omega

theorem popTo_list (c : Nat) (hc : c < 65536) : ∀ k, k ≤ 16 → popTo c k = (listTo c k).length
  | 0, _ => rfl
  | k + 1, h => by
    have ih := popTo_list c hc k (by omega)
    have hb : hasB (c : Int) ((k : Int) + 1) = c.testBit k := by
      have h1 : crewB (c : Int) = true := by simp only [crewB, decide_eq_true_eq]; omega
      have h2 : nodeB ((k : Int) + 1) = true := by simp only [nodeB, decide_eq_true_eq]; omega
      rw [hasB, h1, h2, Bool.true_and, Bool.true_and, Int.toNat_natCast, show ((k : Int) + 1).toNat - 1 = k by omega]
    rw [popTo, listTo, List.length_append, ih, hb, Nat.testBit_eq_decide_div_mod_eq]
    congr 1
    by_cases hx : c / 2 ^ k % 2 = 1
    · rw [if_pos (by simpa using hx), hx]; rfl
    · rw [if_neg (by simpa using hx)]; simp; omega
theorem pop_list (c : Nat) (hc : c < 65536) : pop c = (listTo c 16).length := popTo_list c hc 16 (Nat.le_refl _)

/-- crew.Many. -/
def manyF (c : Int) : Nat := if crewB c then pop c.toNat else 0
end Go.Proofs.YtbfocagicagehaaDoor
