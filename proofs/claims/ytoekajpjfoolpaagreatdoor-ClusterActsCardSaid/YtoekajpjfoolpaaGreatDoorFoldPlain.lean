/- Histories as texts, and their last values, in plain Lean. · One word of a history's text, by how often it holds a colon: what fold.one says of it, in plain Lean. · The last value of one node, from behind; the text of a history, word by word: in plain Lean. -/
import Derived.Test.YtoekajpjfoolpaaGreatDoorFramePlain
import Derived.Test.YtoekajpjfoolpaaGreatDoorClique
import Derived.Lib.IndexMore
import Derived.Lib.Strings
import Derived.Lib.Join
namespace Go.Proofs.YtoekajpjfoolpaaGreatDoor
open Go.RowKit

/-- An entry's word. -/
def entT (e : Ent) : List UInt8 := if e.heard then Lib.itoa e.frm ++ ([58] ++ Lib.itoa e.value) else Lib.itoa e.frm ++ [33]
/-- A history's text. -/
def histT (es : List Ent) : List UInt8 := if es = [] then [45] else Lib.join (es.map entT) [44]
/-- The last values of a history. -/
def lastStep (l : List Int) (e : Ent) : List Int := if e.heard then l.set (e.frm - 1).toNat e.value else l
def lastF (es : List Ent) : List Int := es.foldl lastStep (List.replicate 16 0)
theorem lastFold_length : ∀ (es : List Ent) (l : List Int), (es.foldl lastStep l).length = l.length
  | [], _ => rfl
  | e :: r, l => by rw [List.foldl_cons, lastFold_length r]; unfold lastStep; split <;> simp
theorem lastF_length (es : List Ent) : (lastF es).length = 16 := by rw [lastF, lastFold_length]; rfl
theorem lastF_snoc (es : List Ent) (k : Nat) (hk : k < es.length) : lastF (es.take (k + 1)) = lastStep (lastF (es.take k)) es[k] := by
  rw [lastF, List.take_succ_eq_append_getElem hk, List.foldl_append]; rfl
/-! ### a history that is right -/

theorem chkFrom_get : ∀ (es : List Ent) (i : Int) (k : Nat) (hk : k < es.length), (chkFrom i es).1 = 0 → chkE (i + k) es[k] = 0
  | [], _, k, hk, _ => absurd hk (Nat.not_lt_zero _)
  | e :: r, i, k, hk, h => by
    rw [chkFrom] at h
    split at h
    · rename_i h0
      cases k with
      | zero => simpa using h0
      | succ k =>
        have := chkFrom_get r (i + 1) k (by simpa using hk) h
        rw [List.getElem_cons_succ]
        rwa [show i + ((k + 1 : Nat) : Int) = i + 1 + (k : Int) by omega]
    · rename_i h0; exact absurd h h0
theorem chk_get {es : List Ent} (h : (chk es).1 = 0) (k : Nat) (hk : k < es.length) : es[k].slot = k ∧ nodeB es[k].frm = true ∧ numB es[k].value = true ∧ (es[k].heard = false → es[k].value = 0) := by
  rw [chk] at h
  split at h
  · cases h
  · have := chkFrom_get es 0 k hk h
    rw [chkE] at this
    split at this
    · cases this
    · rename_i h1
      split at this
      · cases this
      · rename_i h2
        split at this
        · cases this
        · rename_i h3
          split at this
          · cases this
          · rename_i h4
            refine ⟨by omega, by simpa using h2, by simpa using h3, fun hh => ?_⟩
            by_cases hv : es[k].value = 0
            · exact hv
            · exact absurd ⟨hh, hv⟩ h4
theorem chk_len {es : List Ent} (h : (chk es).1 = 0) : es.length ≤ 200 := by
  rw [chk] at h
  split at h
  · cases h
  · omega
theorem lastFold_bound : ∀ (es : List Ent) (l : List Int), (∀ e ∈ es, numB e.value = true) → (∀ v ∈ l, -1048576 ≤ v ∧ v ≤ 1048576) → ∀ v ∈ es.foldl lastStep l, -1048576 ≤ v ∧ v ≤ 1048576
  | [], _, _, h => h
  | e :: r, l, he, h => by
    refine lastFold_bound r _ (fun x hx => he x (List.mem_cons_of_mem _ hx)) ?_
    have h1 := he e (by simp)
    simp only [numB, decide_eq_true_eq] at h1
    unfold lastStep
    split
    · intro v hv
      rcases List.mem_or_eq_of_mem_set hv with hv | rfl
      · exact h v hv
      · omega
    · exact h
theorem lastF_bound {es : List Ent} (h : (chk es).1 = 0) : ∀ v ∈ lastF es, -1048576 ≤ v ∧ v ≤ 1048576 := by
  refine lastFold_bound es _ (fun e he => ?_) (fun v hv => by have := List.eq_of_mem_replicate hv; omega)
  obtain ⟨k, hk, rfl⟩ := List.getElem_of_mem he
  exact (chk_get h k hk).2.2.1
theorem sum_bound : ∀ (l : List Int), (∀ v ∈ l, -1048576 ≤ v ∧ v ≤ 1048576) → -(1048576 * (l.length : Int)) ≤ l.sum ∧ l.sum ≤ 1048576 * (l.length : Int)
  | [], _ => by simp
  | x :: r, h => by
    have h1 := h x (by simp)
    have ih := sum_bound r (fun v hv => h v (List.mem_cons_of_mem _ hv))
    rw [List.sum_cons, List.length_cons]
    omega
theorem sum_take_bound {es : List Ent} (h : (chk es).1 = 0) (k : Nat) : -16777216 ≤ ((lastF es).take k).sum ∧ ((lastF es).take k).sum ≤ 16777216 := by
  have h1 := sum_bound ((lastF es).take k) (fun v hv => lastF_bound h v (List.mem_of_mem_take hv))
  have h2 : ((lastF es).take k).length ≤ 16 := by rw [List.length_take, lastF_length]; omega
  omega
theorem sum_snoc (l : List Int) (k : Nat) (hk : k < l.length) : (l.take (k + 1)).sum = (l.take k).sum + l[k] := by
  rw [List.take_succ_eq_append_getElem hk, List.sum_append]; simp

/-! ### what is written is read -/

theorem entT_len {e : Ent} (h1 : nodeB e.frm = true) (h2 : numB e.value = true) : (entT e).length ≤ 12 := by
  simp only [nodeB, numB, decide_eq_true_eq] at h1 h2
  have e2 : (10 : Nat) ^ 2 = 100 := by decide
  have e7 : (10 : Nat) ^ 7 = 10000000 := by decide
  have l1 := itoa_len e.frm 2 (by omega) (by omega)
  have l2 := itoa_len e.value 7 (by omega) (by omega)
  unfold entT
  split <;> (simp only [List.length_append, List.length_cons, List.length_nil]; omega)
theorem join_len12 : ∀ (l : List (List UInt8)), (∀ x ∈ l, x.length ≤ 12) → (Lib.join l [44]).length ≤ l.length * 13
  | [], _ => by simp [Lib.join, List.intercalate]
  | [x], h => by have := h x (by simp); simp [Lib.join, List.intercalate]; omega
  | x :: y :: r, h => by
    have ih := join_len12 (y :: r) (fun z hz => h z (List.mem_cons_of_mem _ hz))
    have hx := h x (by simp)
    simp only [Lib.join, List.intercalate, List.intersperse, List.flatten_cons, List.length_append, List.length_cons, List.length_nil] at ih ⊢
    omega
theorem histT_len {es : List Ent} (h : (chk es).1 = 0) : (histT es).length ≤ 2600 := by
  unfold histT
  split
  · decide
  · have := chk_len h
    refine Nat.le_trans (join_len12 (es.map entT) (fun x hx => ?_)) (by rw [List.length_map]; omega)
    obtain ⟨e, he, rfl⟩ := List.mem_map.1 hx
    obtain ⟨k, hk, rfl⟩ := List.getElem_of_mem he
    exact entT_len (chk_get h k hk).2.1 (chk_get h k hk).2.2.1
end Go.Proofs.YtoekajpjfoolpaaGreatDoor
namespace Go.Proofs.YtoekajpjfoolpaaGreatDoor
open Go.RowKit

theorem numN_no {l : List UInt8} (h : numIs l = false) : numN l = 0 := by
  unfold numIs at h; unfold numN
  cases hf : numF l with
  | none => rfl
  | some n => rw [hf] at h; cases h
end Go.Proofs.YtoekajpjfoolpaaGreatDoor
namespace Go.Proofs.YtoekajpjfoolpaaGreatDoor
open Go.RowKit

/-- The last value that was heard of one node. -/
def lastV (n : Int) (es : List Ent) : Int := es.foldl (fun v e => if e.frm = n ∧ e.heard = true then e.value else v) 0
theorem lastV_hit (n : Int) (es : List Ent) (k : Nat) (hk : k < es.length) (h : es[k].frm = n ∧ es[k].heard = true) : lastV n (es.take (k + 1)) = es[k].value := by
  rw [lastV, List.take_succ_eq_append_getElem hk, List.foldl_append]
  simp only [List.foldl_cons, List.foldl_nil]
  rw [if_pos h]
theorem lastV_miss (n : Int) (es : List Ent) (k : Nat) (hk : k < es.length) (h : ¬ (es[k].frm = n ∧ es[k].heard = true)) : lastV n (es.take (k + 1)) = lastV n (es.take k) := by
  rw [lastV, List.take_succ_eq_append_getElem hk, List.foldl_append]
  simp only [List.foldl_cons, List.foldl_nil]
  rw [if_neg h]; rfl
/-- The reference's list of the last values. -/
def lastL (es : List Ent) (m : Nat) : List Int := (List.range m).map fun i : Nat => lastV ((i : Int) + 1) es
theorem lastL_succ (es : List Ent) (m : Nat) : lastL es (m + 1) = lastL es m ++ [lastV ((m : Int) + 1) es] := by
  rw [lastL, List.range_succ, List.map_append]; rfl
theorem lastL_length (es : List Ent) (m : Nat) : (lastL es m).length = m := by simp [lastL]
theorem joinL_snoc (c : UInt8) : ∀ (ws : List (List UInt8)) (w : List UInt8), ws ≠ [] → joinL c (ws ++ [w]) = joinL c ws ++ c :: w
  | [], _, h => absurd rfl h
  | [x], w, _ => by rw [List.cons_append, List.nil_append, joinL_cons c x (by simp)]; rfl
  | x :: y :: r, w, _ => by
    rw [List.cons_append, joinL_cons c x (by simp), joinL_snoc c (y :: r) w (by simp), joinL_cons c x (by simp), List.append_assoc]; rfl
/-- What is written of the first k entries. -/
def histP (es : List Ent) (k : Nat) : List UInt8 := joinL 44 ((es.take k).map entT)
theorem histP_one (es : List Ent) (h : 0 < es.length) : histP es 1 = entT es[0] := by
  rw [histP, List.take_succ_eq_append_getElem h]; rfl
theorem histP_succ (es : List Ent) (k : Nat) (hk : k < es.length) (h0 : 0 < k) : histP es (k + 1) = histP es k ++ ([44] ++ entT es[k]) := by
  rw [histP, List.take_succ_eq_append_getElem hk, List.map_append, List.map_cons, List.map_nil, joinL_snoc]
  · rfl
  · intro e
    have := congrArg List.length e
    simp only [List.length_map, List.length_take, List.length_nil] at this; omega
theorem histP_all (es : List Ent) (h : es ≠ []) : histP es es.length = histT es := by
  rw [histP, List.take_length, histT, if_neg h, join_joinL]
theorem histP_len {es : List Ent} (h : (chk es).1 = 0) (k : Nat) : (histP es k).length ≤ 2600 := by
  have hl := chk_len h
  rw [histP, ← join_joinL]
  refine Nat.le_trans (join_len12 _ (fun x hx => ?_)) (by rw [List.length_map, List.length_take]; omega)
  obtain ⟨e, he, rfl⟩ := List.mem_map.1 hx
  obtain ⟨j, hj, rfl⟩ := List.getElem_of_mem (List.mem_of_mem_take he)
  exact entT_len (chk_get h j hj).2.1 (chk_get h j hj).2.2.1
end Go.Proofs.YtoekajpjfoolpaaGreatDoor
