/- Crews as numbers: bits. No program in sight. -/
import Derived.Laws.BitsAllLaws
import Derived.Laws.BitsLemmas
import Derived.IntWalk
namespace Go.Proofs.YtbfocagicagehaaDoor

def nodeB (n : Int) : Bool := decide (1 ≤ n ∧ n ≤ 16)
def numB (v : Int) : Bool := decide (-1048576 ≤ v ∧ v ≤ 1048576)
def crewB (c : Int) : Bool := decide (0 ≤ c ∧ c ≤ 65535)
/-- The bit of a node. -/
def bitOf (n : Int) : Nat := 2 ^ (n.toNat - 1)
/-- Has a crew a node? -/
def hasB (c n : Int) : Bool := crewB c && (nodeB n && c.toNat.testBit (n.toNat - 1))
/-- The crew of some nodes. -/
def crewOf (l : List Int) : Nat := l.foldl (fun c n => c ||| bitOf n) 0

theorem bitOf_lt {n : Int} (h : nodeB n = true) : bitOf n < 65536 := by
  simp only [nodeB, decide_eq_true_eq] at h
  have : n.toNat - 1 < 16 := by omega
  exact Nat.pow_lt_pow_right (by omega) this

theorem ofInt_nat (a : Nat) (ha : a < 9223372036854775808) : (BitVec.ofInt 64 (a : Int)).toNat = a := by
  rw [BitVec.ofInt_natCast, BitVec.toNat_ofNat]; exact Nat.mod_eq_of_lt (by omega)
theorem and_nat (a b : Nat) (ha : a < 9223372036854775808) (hb : b < 9223372036854775808) : bits .and .i64 (a : Int) (b : Int) = ((a &&& b : Nat) : Int) := by
  have hx : a &&& b < 2 ^ 63 := Nat.and_lt_two_pow _ (by omega)
  show IntKind.i64.wrap ((BitVec.ofInt 64 (a : Int) &&& BitVec.ofInt 64 (b : Int)).toNat : Int) = _
  rw [BitVec.toNat_and, ofInt_nat a ha, ofInt_nat b hb, IntKind.wrap_i64]
  omega
theorem or_nat (a b : Nat) (ha : a < 9223372036854775808) (hb : b < 9223372036854775808) : bits .or .i64 (a : Int) (b : Int) = ((a ||| b : Nat) : Int) := by
  have hx : a ||| b < 2 ^ 63 := Nat.or_lt_two_pow (by omega) (by omega)
  show IntKind.i64.wrap ((BitVec.ofInt 64 (a : Int) ||| BitVec.ofInt 64 (b : Int)).toNat : Int) = _
  rw [BitVec.toNat_or, ofInt_nat a ha, ofInt_nat b hb, IntKind.wrap_i64]
  omega

theorem and_bit (c k : Nat) : c &&& 2 ^ k = if c.testBit k then 2 ^ k else 0 := by
  apply Nat.eq_of_testBit_eq
  intro i
  rw [Nat.testBit_and, Nat.testBit_two_pow]
  by_cases h : k = i
  · subst h; cases hc : c.testBit k <;> simp
  · cases hc : c.testBit k <;> simp [h]

theorem crewOf_fold_lt (l : List Int) : ∀ c : Nat, c < 65536 → (∀ n ∈ l, nodeB n = true) → l.foldl (fun c n => c ||| bitOf n) c < 65536 := by
  induction l with
  | nil => intro c h _; exact h
  | cons n r ih =>
    intro c hc hn
    exact ih _ (Nat.or_lt_two_pow (n := 16) hc (bitOf_lt (hn n (by simp)))) (fun m hm => hn m (List.mem_cons_of_mem _ hm))
theorem crewOf_lt {l : List Int} (h : ∀ n ∈ l, nodeB n = true) : crewOf l < 65536 := crewOf_fold_lt l 0 (by omega) h

theorem testBit_fold (l : List Int) (i : Nat) : ∀ c : Nat, (l.foldl (fun c n => c ||| bitOf n) c).testBit i = (c.testBit i || l.any fun n => decide (n.toNat - 1 = i)) := by
  induction l with
  | nil => intro c; simp
  | cons n r ih =>
    intro c
    simp only [List.foldl_cons, List.any_cons]
    rw [ih, Nat.testBit_or, bitOf, Nat.testBit_two_pow, Bool.or_assoc]

/-- Of nodes: a crew has those, and no other. -/
theorem hasB_crewOf {l : List Int} (h : ∀ n ∈ l, nodeB n = true) (m : Int) : hasB (crewOf l) m = decide (m ∈ l) := by
  have hl := crewOf_lt h
  have hc : crewB ((crewOf l : Nat) : Int) = true := by simp only [crewB, decide_eq_true_eq]; omega
  simp only [hasB, hc, Bool.true_and]
  by_cases hm : m ∈ l
  · have hnm := h m hm
    simp only [hnm, Bool.true_and, hm, decide_true]
    rw [Int.toNat_natCast, crewOf, testBit_fold]
    simp only [Nat.zero_testBit, Bool.false_or, List.any_eq_true, decide_eq_true_eq]
    exact ⟨m, hm, rfl⟩
  · simp only [hm, decide_false]
    cases hnm : nodeB m
    · rfl
    · rw [Bool.true_and, Int.toNat_natCast, crewOf, testBit_fold]
      simp only [Nat.zero_testBit, Bool.false_or]
      rw [List.any_eq_false]
      intro n hn
      simp only [decide_eq_true_eq]
      intro e
      have hnn := h n hn
      simp only [nodeB, decide_eq_true_eq] at hnm hnn
      exact hm ((show m = n by omega) ▸ hn)
end Go.Proofs.YtbfocagicagehaaDoor
