/- The plain law of CliqueOne: two histories of which each has what the other one has not: one at most stays. -/
import Derived.Test.YtbhjjbfhncfbdaaDoorClique3
namespace Go.Proofs.YtbhjjbfhncfbdaaDoor

/-- One of two halves of a history, from entry i on: what is (or is not) in ws is kept, the rest was not heard. -/
def sideF (ws : List Int) (inn : Bool) : Nat → List Ent → List Ent
  | _, [] => []
  | i, e :: r => (if decide ((i : Int) ∈ ws) = inn then e else ⟨i, e.frm, false, 0⟩) :: sideF ws inn (i + 1) r

theorem sideF_length (ws : List Int) (inn : Bool) : ∀ (i : Nat) (es : List Ent), (sideF ws inn i es).length = es.length
  | _, [] => rfl
  | i, _ :: r => by simp [sideF, sideF_length ws inn (i + 1) r]

theorem sideF_get (ws : List Int) (inn : Bool) : ∀ (i : Nat) (es : List Ent) (k : Nat) (hk : k < es.length) (hk' : k < (sideF ws inn i es).length),
    (sideF ws inn i es)[k] = if decide (((i + k : Nat) : Int) ∈ ws) = inn then es[k] else ⟨((i + k : Nat) : Int), es[k].frm, false, 0⟩
  | _, [], k, hk, _ => by simp at hk
  | i, e :: r, 0, _, _ => by simp [sideF]
  | i, e :: r, k + 1, hk, hk' => by
    have := sideF_get ws inn (i + 1) r k (by simpa using hk) (by simpa [sideF] using hk')
    rw [show i + 1 + k = i + (k + 1) by omega] at this
    simpa [sideF] using this

theorem sideF_snoc (ws : List Int) (inn : Bool) (es : List Ent) (k : Nat) (hk : k < es.length) :
    (sideF ws inn 0 es).take (k + 1) = (sideF ws inn 0 es).take k ++ [if decide ((k : Int) ∈ ws) = inn then es[k] else ⟨(k : Int), es[k].frm, false, 0⟩] := by
  have hk' : k < (sideF ws inn 0 es).length := by rw [sideF_length]; exact hk
  rw [List.take_succ_eq_append_getElem hk', sideF_get ws inn 0 es k hk hk']
  simp only [Nat.zero_add]

theorem chkFrom_side (ws : List Int) (inn : Bool) : ∀ (i : Nat) (es : List Ent), (chkFrom i es).1 = 0 → chkFrom i (sideF ws inn i es) = (0, -1)
  | _, [], _ => rfl
  | i, e :: r, h => by
    rw [chkFrom] at h
    by_cases hz : chkE i e = 0
    · rw [if_pos hz] at h
      have ih := chkFrom_side ws inn (i + 1) r (by simpa using h)
      have hz' : chkE i (if decide ((i : Int) ∈ ws) = inn then e else ⟨i, e.frm, false, 0⟩) = 0 := by
        split
        · exact hz
        · have hn : nodeB e.frm = true := by
            cases hf : nodeB e.frm
            · simp only [chkE, hf] at hz
              split at hz <;> simp at hz
            · rfl
          simp [chkE, hn, numB]
      rw [sideF, chkFrom, if_pos hz']
      simpa using ih
    · rw [if_neg hz] at h
      exact absurd h hz

theorem chk_side (ws : List Int) (inn : Bool) (es : List Ent) (h : (chk es).1 = 0) : chk (sideF ws inn 0 es) = (0, -1) := by
  unfold chk at h ⊢
  rw [sideF_length]
  split at h
  · simp at h
  · rename_i hl
    rw [if_neg hl]
    exact chkFrom_side ws inn 0 es h

theorem goods_bads (l : List Ent) : goods l + bads l = l.length := by
  induction l with
  | nil => rfl
  | cons e r ih =>
    simp only [goods, bads] at ih ⊢
    cases h : e.heard <;> simp [h] <;> omega

theorem goods_sides (ws : List Int) : ∀ (i d : Nat) (es : List Ent), goods ((sideF ws true i es).drop d) + goods ((sideF ws false i es).drop d) ≤ (es.drop d).length
  | _, _, [] => by simp [sideF, goods]
  | i, 0, e :: r => by
    have ih := goods_sides ws (i + 1) 0 r
    simp only [goods, List.drop_zero, sideF] at ih ⊢
    by_cases hm : (i : Int) ∈ ws <;> cases h : e.heard <;> simp [hm, h] <;> omega
  | i, d + 1, e :: r => by
    have ih := goods_sides ws (i + 1) d r
    simpa [sideF] using ih

/-- One at most stays. -/
theorem one_stays (ws : List Int) (r : Int) (es : List Ent) : (staysB r (sideF ws true 0 es) && staysB r (sideF ws false 0 es)) = false := by
  have h := goods_sides ws 0 ((es.length : Int) - r).toNat es
  have ha := goods_bads (lastR r (sideF ws true 0 es))
  have hb := goods_bads (lastR r (sideF ws false 0 es))
  simp only [lastR, sideF_length, List.length_drop] at h ha hb
  by_cases h1 : staysB r (sideF ws true 0 es) = true
  · have h1' := h1
    simp only [staysB, lastR, sideF_length, decide_eq_true_eq] at h1'
    rw [h1, Bool.true_and]
    simp only [staysB, lastR, sideF_length, decide_eq_false_iff_not]
    omega
  · simp only [Bool.not_eq_true] at h1; rw [h1, Bool.false_and]
end Go.Proofs.YtbhjjbfhncfbdaaDoor
