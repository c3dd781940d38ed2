/- The plain law of DeltaWhole: a beginning of a right history is right; what was there and the next piece is a longer beginning. -/
import Derived.Test.YtbhjjbfhncfbdaaDoorDelta2
namespace Go.Proofs.YtbhjjbfhncfbdaaDoor

theorem chkFrom_take : ∀ (i : Int) (es : List Ent) (k : Nat), (chkFrom i es).1 = 0 → (chkFrom i (es.take k)).1 = 0
  | _, [], k, _ => by simp [chkFrom]
  | i, e :: r, 0, _ => by simp [chkFrom]
  | i, e :: r, k + 1, h => by
    rw [List.take_succ_cons]
    unfold chkFrom at h ⊢
    by_cases hz : chkE i e = 0
    · rw [if_pos hz] at h ⊢; exact chkFrom_take (i + 1) r k h
    · rw [if_neg hz] at h; exact absurd h hz

theorem chk_take (es : List Ent) (k : Nat) (h : (chk es).1 = 0) : (chk (es.take k)).1 = 0 := by
  unfold chk at h ⊢
  by_cases hl : 200 < es.length
  · rw [if_pos hl] at h; simp at h
  · rw [if_neg hl] at h
    rw [if_neg (by rw [List.length_take]; omega)]
    exact chkFrom_take 0 es k h

theorem sinceL_len (es : List Ent) (k : Nat) (most : Int) : (sinceL es k most).length = min most.toNat (es.length - k) := by
  simp [sinceL]
theorem since_join (es : List Ent) (k : Nat) (most : Int) : es.take k ++ sinceL es k most = es.take (k + (sinceL es k most).length) := by
  rw [sinceL_len, List.take_add]
  congr 1
  simp only [sinceL]
  by_cases h : most.toNat ≤ es.length - k
  · rw [Nat.min_eq_left h]
  · rw [Nat.min_eq_right (by omega), List.take_of_length_le (by simp; omega), List.take_of_length_le (by simp)]
end Go.Proofs.YtbhjjbfhncfbdaaDoor
