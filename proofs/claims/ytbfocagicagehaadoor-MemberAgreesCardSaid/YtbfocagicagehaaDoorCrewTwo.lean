/- crew: two, Both, Either, Less. -/
import Derived.Test.YtbfocagicagehaaDoorCrew
namespace Go.Proofs.YtbfocagicagehaaDoor
open Go.RowKit

def twoE (a b : Int) : Nat := if crewB a && crewB b then 0 else 2
def lessN (a b : Nat) : Nat := a ^^^ (a &&& b)
def bothF (a b : Int) : Nat := if crewB a && crewB b then a.toNat &&& b.toNat else 0
def eitherF (a b : Int) : Nat := if crewB a && crewB b then a.toNat ||| b.toNat else 0
def lessF (a b : Int) : Nat := if crewB a && crewB b then lessN a.toNat b.toNat else 0

theorem andNot_nat (a b : Nat) (ha : a < 9223372036854775808) (hb : b < 9223372036854775808) : bits .andNot .i64 (a : Int) (b : Int) = ((lessN a b : Nat) : Int) := by
  have hx : lessN a b < 2 ^ 63 := Nat.xor_lt_two_pow (by omega) (Nat.and_lt_two_pow _ (by omega))
  have e : (BitVec.ofInt 64 (a : Int) &&& ~~~ BitVec.ofInt 64 (b : Int)).toNat = lessN a b := by
    apply Nat.eq_of_testBit_eq
    intro i
    rw [lessN, Nat.testBit_xor, Nat.testBit_and, BitVec.testBit_toNat, BitVec.getLsbD_and, BitVec.getLsbD_not, ← BitVec.testBit_toNat, ← BitVec.testBit_toNat, ofInt_nat a ha, ofInt_nat b hb]
    by_cases hi : i < 64
    · cases a.testBit i <;> cases b.testBit i <;> simp [hi]
    · have : a.testBit i = false := Nat.testBit_lt_two_pow (Nat.lt_of_lt_of_le (show a < 2 ^ 64 by omega) (Nat.pow_le_pow_right (by omega) (by omega)))
      simp [this]
  show IntKind.i64.wrap ((BitVec.ofInt 64 (a : Int) &&& ~~~ BitVec.ofInt 64 (b : Int)).toNat : Int) = _
  rw [e, IntKind.wrap_i64]
  omega

theorem crew_nat {a : Int} (h : crewB a = true) : ∃ k : Nat, a = k ∧ k < 65536 := ⟨a.toNat, by simp [crewB] at h; omega, by simp [crewB] at h; omega⟩
end Go.Proofs.YtbfocagicagehaaDoor
