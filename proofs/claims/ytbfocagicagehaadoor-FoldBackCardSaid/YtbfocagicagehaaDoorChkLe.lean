/- chk: its codes. No program in sight but chk's own text. -/
import Derived.Test.YtbfocagicagehaaDoorClique
namespace Go.Proofs.YtbfocagicagehaaDoor

theorem chkFrom_zero : ∀ (es : List Ent) (i : Int), (chkFrom i es).1 = 0 → chkFrom i es = (0, -1)
  | [], _, _ => rfl
  | e :: r, i, h => by
    rw [chkFrom] at h ⊢
    split
    · rename_i hz; rw [if_pos hz] at h; exact chkFrom_zero r _ h
    · rename_i hz; rw [if_neg hz] at h; exact absurd h hz
theorem chk_zero {es : List Ent} (h : (chk es).1 = 0) : chk es = (0, -1) := by
  unfold chk at h ⊢
  split
  · rename_i hl; rw [if_pos hl] at h; simp at h
  · rename_i hl; rw [if_neg hl] at h; exact chkFrom_zero es 0 h
theorem chkE_le (i : Int) (e : Ent) : chkE i e ≤ 11 := by unfold chkE; repeat (first | omega | split)
theorem chkFrom_le : ∀ (es : List Ent) (i : Int), (chkFrom i es).1 ≤ 11
  | [], _ => by simp [chkFrom]
  | e :: r, i => by
    rw [chkFrom]; split
    · exact chkFrom_le r _
    · exact chkE_le i e
theorem chk_le (es : List Ent) : (chk es).1 ≤ 11 := by
  unfold chk; split
  · simp
  · exact chkFrom_le es 0

end Go.Proofs.YtbfocagicagehaaDoor
