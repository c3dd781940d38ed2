/- The sum of a text, from behind: in plain Lean. -/
import Derived.Test.YtgghnncgeogemaaGreatDoorFrameMake
namespace Go.Proofs.YtgghnncgeogemaaGreatDoor
open Go.RowKit

/-- The sum's two numbers of what lies behind. -/
def refS : List UInt8 → Nat × Nat
  | [] => (0, 1)
  | b :: r => (((refS r).1 + (refS r).2 * (b.toNat + 1)) % 65521, (refS r).2 * 257 % 65521)
theorem refS_lt : ∀ l : List UInt8, (refS l).1 < 65521 ∧ (refS l).2 < 65521
  | [] => ⟨by decide, by decide⟩
  | b :: r => ⟨Nat.mod_lt _ (by omega), Nat.mod_lt _ (by omega)⟩
theorem refS_fold : ∀ (l : List UInt8) (m : Nat), l.foldl sumStep m % 65521 = (m * (refS l).2 + (refS l).1) % 65521
  | [], m => by simp [refS]
  | b :: r, m => by
    rw [List.foldl_cons, refS_fold r, refS]
    generalize (refS r).1 = n
    generalize (refS r).2 = p
    rw [sumStep]
    have e1 : ((m * 257 + b.toNat + 1) % 65521 * p + n) % 65521 = ((m * 257 + b.toNat + 1) * p + n) % 65521 := by
      rw [Nat.add_mod, Nat.mod_mul_mod, ← Nat.add_mod]
    have e2 : (m * (p * 257 % 65521) + (n + p * (b.toNat + 1)) % 65521) % 65521 = (m * (p * 257) + (n + p * (b.toNat + 1))) % 65521 := by
      rw [Nat.add_mod, Nat.mul_mod_mod, Nat.mod_mod, ← Nat.add_mod]
    rw [e1, e2]
    congr 1
    generalize b.toNat = x
    grind
theorem refS_sum (l : List UInt8) : ((refS l).1 + (refS l).2) % 65521 = sumF l := by
  have h := refS_fold l 1
  rw [Nat.one_mul, Nat.add_comm] at h
  rw [← h]
  exact Nat.mod_eq_of_lt (sumF_lt l)
end Go.Proofs.YtgghnncgeogemaaGreatDoor
