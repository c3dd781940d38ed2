/- Histories as texts, and their last values, in plain Lean. · One word of a history's text, by how often it holds a colon: what fold.one says of it, in plain Lean. · The last value of one node, from behind; the text of a history, word by word: in plain Lean. -/
import Derived.Test.YtkjmgfpbngiipaaGreatDoorFramePlain
import Derived.Test.YtkjmgfpbngiipaaGreatDoorClique
import Derived.Lib.IndexMore
import Derived.Lib.Strings
import Derived.Lib.Join
namespace Go.Proofs.YtkjmgfpbngiipaaGreatDoor
open Go.RowKit

/-- An entry's word. -/
def entT (e : Ent) : List UInt8 := if e.heard then Lib.itoa e.frm ++ ([58] ++ Lib.itoa e.value) else Lib.itoa e.frm ++ [33]
/-- A history's text. -/
def histT (es : List Ent) : List UInt8 := if es = [] then [45] else Lib.join (es.map entT) [44]
/-- fold.one: what a word says. -/
def oneE (s : List UInt8) : Ent := if Lib.hasSuffix s [33] then ⟨0, numN (Lib.trimSuffix s [33]), false, 0⟩ else ⟨0, numN (Lib.cut s [58]).1, true, numN (Lib.cut s [58]).2.1⟩
def oneB (s : List UInt8) : Bool := if Lib.hasSuffix s [33] then numIs (Lib.trimSuffix s [33]) else (Lib.cut s [58]).2.2 && numIs (Lib.cut s [58]).1 && numIs (Lib.cut s [58]).2.1
def histStep (st : Option (List Ent)) (x : List UInt8) : Option (List Ent) := st.bind fun es => if oneB x then some (es ++ [⟨(es.length : Int), (oneE x).frm, (oneE x).heard, (oneE x).value⟩]) else none
def histAcc (l : List (List UInt8)) : Option (List Ent) := l.foldl histStep (some [])
theorem histAcc_snoc (l : List (List UInt8)) (x : List UInt8) : histAcc (l ++ [x]) = histStep (histAcc l) x := by simp [histAcc]
theorem histAcc_none : ∀ (r : List (List UInt8)) {l : List (List UInt8)}, histAcc l = none → histAcc (l ++ r) = none
  | [], l, h => by simpa using h
  | x :: r, l, h => by
    have h1 : histAcc (l ++ [x]) = none := by rw [histAcc_snoc, h]; rfl
    have := histAcc_none r h1
    rwa [List.append_assoc] at this
theorem histAcc_length : ∀ (l : List (List UInt8)) (es : List Ent), histAcc l = some es → es.length = l.length := by
  intro l
  refine snoc_ind (p := fun l => ∀ es, histAcc l = some es → es.length = l.length) ?_ ?_ l.length l rfl
  · intro es h; cases h; rfl
  · intro l x ih es h
    rw [histAcc_snoc] at h
    cases ha : histAcc l with
    | none => rw [ha] at h; cases h
    | some fs =>
      rw [ha, histStep, Option.bind_some] at h
      split at h
      · cases h; have := ih fs ha; simp; omega
      · cases h
/-- fold.Read. -/
def foldR (s : List UInt8) : (Nat × Int) × List Ent :=
  if 4000 < s.length then ((2, -1), []) else if s = [45] then ((0, -1), []) else match histAcc (cutL 44 s) with
    | none => ((1, -1), [])
    | some es => if (chk es).1 = 0 then ((0, -1), es) else (chk es, [])
/-- The last values of a history. -/
def lastStep (l : List Int) (e : Ent) : List Int := if e.heard then l.set (e.frm - 1).toNat e.value else l
def lastF (es : List Ent) : List Int := es.foldl lastStep (List.replicate 16 0)
theorem lastFold_length : ∀ (es : List Ent) (l : List Int), (es.foldl lastStep l).length = l.length
  | [], _ => rfl
  | e :: r, l => by rw [List.foldl_cons, lastFold_length r]; unfold lastStep; split <;> simp
theorem lastF_length (es : List Ent) : (lastF es).length = 16 := by rw [lastF, lastFold_length]; rfl
theorem lastF_snoc (es : List Ent) (k : Nat) (hk : k < es.length) : lastF (es.take (k + 1)) = lastStep (lastF (es.take k)) es[k] := by
  rw [lastF, List.take_succ_eq_append_getElem hk, List.foldl_append]; rfl
theorem lastF_cut (es : List Ent) (c : Nat) : (es.drop c).foldl lastStep (lastF (es.take c)) = lastF es := by
  rw [lastF, ← List.foldl_append, List.take_append_drop]; rfl

/-! ### a history that is right -/

theorem chkFrom_pre : ∀ (i : Int) (es : List Ent) (k : Nat), (chkFrom i es).1 = 0 → (chkFrom i (es.take k)).1 = 0
  | _, [], k, _ => by simp [chkFrom]
  | i, e :: r, 0, _ => by simp [chkFrom]
  | i, e :: r, k + 1, h => by
    rw [List.take_succ_cons]
    unfold chkFrom at h ⊢
    by_cases hz : chkE i e = 0
    · rw [if_pos hz] at h ⊢; exact chkFrom_pre (i + 1) r k h
    · rw [if_neg hz] at h; exact absurd h hz
theorem chk_pre (es : List Ent) (k : Nat) (h : (chk es).1 = 0) : (chk (es.take k)).1 = 0 := by
  unfold chk at h ⊢
  by_cases hl : 200 < es.length
  · rw [if_pos hl] at h; simp at h
  · rw [if_neg hl] at h
    rw [if_neg (by rw [List.length_take]; omega)]
    exact chkFrom_pre 0 es k h
theorem chkFrom_get : ∀ (es : List Ent) (i : Int) (k : Nat) (hk : k < es.length), (chkFrom i es).1 = 0 → chkE (i + k) es[k] = 0
  | [], _, k, hk, _ => absurd hk (Nat.not_lt_zero _)
  | e :: r, i, k, hk, h => by
    rw [chkFrom] at h
    split at h
    · rename_i h0
      cases k with
      | zero => simpa using h0
      | succ k =>
        have := chkFrom_get r (i + 1) k (by simpa using hk) h
        rw [List.getElem_cons_succ]
        rwa [show i + ((k + 1 : Nat) : Int) = i + 1 + (k : Int) by omega]
    · rename_i h0; exact absurd h h0
theorem chk_get {es : List Ent} (h : (chk es).1 = 0) (k : Nat) (hk : k < es.length) : es[k].slot = k ∧ nodeB es[k].frm = true ∧ numB es[k].value = true ∧ (es[k].heard = false → es[k].value = 0) := by
  rw [chk] at h
  split at h
  · cases h
  · have := chkFrom_get es 0 k hk h
    rw [chkE] at this
    split at this
    · cases this
    · rename_i h1
      split at this
      · cases this
      · rename_i h2
        split at this
        · cases this
        · rename_i h3
          split at this
          · cases this
          · rename_i h4
            refine ⟨by omega, by simpa using h2, by simpa using h3, fun hh => ?_⟩
            by_cases hv : es[k].value = 0
            · exact hv
            · exact absurd ⟨hh, hv⟩ h4
theorem chk_len {es : List Ent} (h : (chk es).1 = 0) : es.length ≤ 200 := by
  rw [chk] at h
  split at h
  · cases h
  · omega
theorem lastFold_bound : ∀ (es : List Ent) (l : List Int), (∀ e ∈ es, numB e.value = true) → (∀ v ∈ l, -1048576 ≤ v ∧ v ≤ 1048576) → ∀ v ∈ es.foldl lastStep l, -1048576 ≤ v ∧ v ≤ 1048576
  | [], _, _, h => h
  | e :: r, l, he, h => by
    refine lastFold_bound r _ (fun x hx => he x (List.mem_cons_of_mem _ hx)) ?_
    have h1 := he e (by simp)
    simp only [numB, decide_eq_true_eq] at h1
    unfold lastStep
    split
    · intro v hv
      rcases List.mem_or_eq_of_mem_set hv with hv | rfl
      · exact h v hv
      · omega
    · exact h
theorem lastF_bound {es : List Ent} (h : (chk es).1 = 0) : ∀ v ∈ lastF es, -1048576 ≤ v ∧ v ≤ 1048576 := by
  refine lastFold_bound es _ (fun e he => ?_) (fun v hv => by have := List.eq_of_mem_replicate hv; omega)
  obtain ⟨k, hk, rfl⟩ := List.getElem_of_mem he
  exact (chk_get h k hk).2.2.1
theorem sum_bound : ∀ (l : List Int), (∀ v ∈ l, -1048576 ≤ v ∧ v ≤ 1048576) → -(1048576 * (l.length : Int)) ≤ l.sum ∧ l.sum ≤ 1048576 * (l.length : Int)
  | [], _ => by simp
  | x :: r, h => by
    have h1 := h x (by simp)
    have ih := sum_bound r (fun v hv => h v (List.mem_cons_of_mem _ hv))
    rw [List.sum_cons, List.length_cons]
    omega
theorem sum_take_bound {es : List Ent} (h : (chk es).1 = 0) (k : Nat) : -16777216 ≤ ((lastF es).take k).sum ∧ ((lastF es).take k).sum ≤ 16777216 := by
  have h1 := sum_bound ((lastF es).take k) (fun v hv => lastF_bound h v (List.mem_of_mem_take hv))
  have h2 : ((lastF es).take k).length ≤ 16 := by rw [List.length_take, lastF_length]; omega
  omega
theorem sum_snoc (l : List Int) (k : Nat) (hk : k < l.length) : (l.take (k + 1)).sum = (l.take k).sum + l[k] := by
  rw [List.take_succ_eq_append_getElem hk, List.sum_append]; simp

/-! ### what is written is read -/

theorem hasSuffix_snoc (a : List UInt8) (c : UInt8) : Lib.hasSuffix (a ++ [c]) [c] = true := by
  rw [Lib.hasSuffix, List.isSuffixOf_iff_suffix]; exact List.suffix_append _ _
theorem trimSuffix_snoc (a : List UInt8) (c : UInt8) : Lib.trimSuffix (a ++ [c]) [c] = a := by
  rw [Lib.trimSuffix, if_pos (hasSuffix_snoc a c)]
  simp
theorem hasSuffix_not {a : List UInt8} {c : UInt8} (h : c ∉ a) : Lib.hasSuffix a [c] = false := by
  rw [Bool.eq_false_iff]
  intro hs
  rw [Lib.hasSuffix, List.isSuffixOf_iff_suffix] at hs
  exact h (hs.subset (by simp))
theorem index_mid {a : List UInt8} {c : UInt8} (h : c ∉ a) (b : List UInt8) : Lib.index (a ++ c :: b) [c] = (a.length : Int) := by
  refine Lib.index_first (by simp) (by simp [Lib.occAt, List.isPrefixOf]) (fun j hj => ?_)
  rw [Lib.occAt, List.drop_append_of_le_length (by omega), List.drop_eq_getElem_cons hj]
  have : a[j] ≠ c := fun e => h (e ▸ List.getElem_mem hj)
  have hb : (c == a[j]) = false := by simpa using this.symm
  rw [List.cons_append]
  unfold List.isPrefixOf
  rw [hb]; rfl
theorem cut_mid {a : List UInt8} {c : UInt8} (h : c ∉ a) (b : List UInt8) : Lib.cut (a ++ c :: b) [c] = (a, b, true) := by
  rw [Lib.cut, index_mid h, if_pos (by omega)]
  simp
theorem one_word {e : Ent} (h1 : nodeB e.frm = true) (h2 : numB e.value = true) (h3 : e.heard = false → e.value = 0) : oneB (entT e) = true ∧ (oneE (entT e)).frm = e.frm ∧ (oneE (entT e)).heard = e.heard ∧ (oneE (entT e)).value = e.value := by
  simp only [nodeB, numB, decide_eq_true_eq] at h1 h2
  have n1 := itoa_num (n := e.frm) (by omega)
  have n2 := itoa_num (n := e.value) (by omega)
  cases hh : e.heard
  · have ht : entT e = Lib.itoa e.frm ++ [33] := by rw [entT, if_neg (by simp [hh])]
    rw [ht, oneB, oneE, if_pos (hasSuffix_snoc _ _), if_pos (hasSuffix_snoc _ _), trimSuffix_snoc]
    exact ⟨n1.2, n1.1, rfl, (h3 hh).symm⟩
  · have ht : entT e = Lib.itoa e.frm ++ 58 :: Lib.itoa e.value := by rw [entT, if_pos hh]; rfl
    have hs : Lib.hasSuffix (entT e) [33] = false := hasSuffix_not (by
      rw [ht]; simp only [List.mem_append, List.mem_cons, not_or]
      exact ⟨itoa_no (by decide) _, by decide, itoa_no (by decide) _⟩)
    have hc : Lib.cut (entT e) [58] = (Lib.itoa e.frm, Lib.itoa e.value, true) := by rw [ht]; exact cut_mid (itoa_no (by decide) _) _
    rw [oneB, oneE, if_neg (by simp [hs]), if_neg (by simp [hs]), hc]
    exact ⟨by simp [n1.2, n2.2], n1.1, rfl, n2.1⟩
theorem entT_no {c : UInt8} (hc : c.toNat < 33 ∨ 33 < c.toNat ∧ c.toNat < 45 ∨ c.toNat = 46 ∨ c.toNat = 47 ∨ 58 < c.toNat) (e : Ent) : c ∉ entT e := by
  have hi := itoa_no (c := c) (by omega)
  have h33 : c ≠ 33 := by rintro rfl; revert hc; decide
  have h58 : c ≠ 58 := by rintro rfl; revert hc; decide
  unfold entT
  split
  · simp only [List.mem_append, List.mem_cons, List.not_mem_nil, or_false, not_or]; exact ⟨hi _, h58, hi _⟩
  · simp only [List.mem_append, List.mem_cons, List.not_mem_nil, or_false, not_or]; exact ⟨hi _, h33⟩
theorem histAcc_words {es : List Ent} (h : ∀ k (hk : k < es.length), es[k].slot = k ∧ nodeB es[k].frm = true ∧ numB es[k].value = true ∧ (es[k].heard = false → es[k].value = 0)) : ∀ k, k ≤ es.length → histAcc ((es.take k).map entT) = some (es.take k)
  | 0, _ => rfl
  | k + 1, hk => by
    have ih := histAcc_words h k (by omega)
    obtain ⟨h0, h1, h2, h3⟩ := h k (by omega)
    obtain ⟨o1, o2, o3, o4⟩ := one_word h1 h2 h3
    rw [List.take_succ_eq_append_getElem (by omega), List.map_append, List.map_cons, List.map_nil, histAcc_snoc, ih, histStep, Option.bind_some, if_pos o1, o2, o3, o4]
    have : (es.take k).length = k := by rw [List.length_take]; omega
    rw [this, ← h0]
theorem entT_len {e : Ent} (h1 : nodeB e.frm = true) (h2 : numB e.value = true) : (entT e).length ≤ 12 := by
  simp only [nodeB, numB, decide_eq_true_eq] at h1 h2
  have e2 : (10 : Nat) ^ 2 = 100 := by decide
  have e7 : (10 : Nat) ^ 7 = 10000000 := by decide
  have l1 := itoa_len e.frm 2 (by omega) (by omega)
  have l2 := itoa_len e.value 7 (by omega) (by omega)
  unfold entT
  split <;> (simp only [List.length_append, List.length_cons, List.length_nil]; omega)
theorem join_len12 : ∀ (l : List (List UInt8)), (∀ x ∈ l, x.length ≤ 12) → (Lib.join l [44]).length ≤ l.length * 13
  | [], _ => by simp [Lib.join, List.intercalate]
  | [x], h => by have := h x (by simp); simp [Lib.join, List.intercalate]; omega
  | x :: y :: r, h => by
    have ih := join_len12 (y :: r) (fun z hz => h z (List.mem_cons_of_mem _ hz))
    have hx := h x (by simp)
    simp only [Lib.join, List.intercalate, List.intersperse, List.flatten_cons, List.length_append, List.length_cons, List.length_nil] at ih ⊢
    omega
theorem histT_len {es : List Ent} (h : (chk es).1 = 0) : (histT es).length ≤ 2600 := by
  unfold histT
  split
  · decide
  · have := chk_len h
    refine Nat.le_trans (join_len12 (es.map entT) (fun x hx => ?_)) (by rw [List.length_map]; omega)
    obtain ⟨e, he, rfl⟩ := List.mem_map.1 hx
    obtain ⟨k, hk, rfl⟩ := List.getElem_of_mem he
    exact entT_len (chk_get h k hk).2.1 (chk_get h k hk).2.2.1
/-- A history is read as it was written. -/
theorem hist_read {es : List Ent} (h : (chk es).1 = 0) : foldR (histT es) = ((0, -1), es) := by
  have hl := histT_len h
  rw [foldR, if_neg (by omega)]
  by_cases h0 : es = []
  · subst h0; rfl
  · have ht : histT es = joinL 44 (es.map entT) := by rw [histT, if_neg h0, join_joinL]
    have hc : cutL 44 (histT es) = es.map entT := by
      rw [ht]
      exact cutL_joinL 44 _ (by simpa using h0) (fun w hw => by obtain ⟨e, _, rfl⟩ := List.mem_map.1 hw; exact entT_no (by decide) e)
    have hs : histT es ≠ [45] := fun e => by
      rw [e] at hc
      have h1 : cutL 44 [45] = [[45]] := rfl
      rw [h1] at hc
      have hm : ([45] : List UInt8) ∈ es.map entT := by rw [← hc]; simp
      obtain ⟨x, _, hx⟩ := List.mem_map.1 hm
      have h2 := congrArg List.length hx
      have h3 : (Lib.itoa x.frm) ≠ [] := itoa_ne _
      have h4 := List.length_pos_iff.2 h3
      unfold entT at h2
      split at h2 <;> simp only [List.length_append, List.length_cons, List.length_nil] at h2 <;> omega
    rw [if_neg hs, hc]
    have := histAcc_words (es := es) (fun k hk => chk_get h k hk) es.length (Nat.le_refl _)
    rw [List.take_length] at this
    rw [this]
    simp only
    rw [if_pos h]
end Go.Proofs.YtkjmgfpbngiipaaGreatDoor
namespace Go.Proofs.YtkjmgfpbngiipaaGreatDoor
open Go.RowKit

theorem numIs_no {l : List UInt8} {c : UInt8} (hc : c ∈ l) (h : c.toNat < 45 ∨ c.toNat = 46 ∨ c.toNat = 47 ∨ 57 < c.toNat) : numIs l = false := by
  cases hn : numIs l with
  | false => rfl
  | true => rw [numIs_itoa hn] at hc; exact absurd hc (itoa_no h _)
theorem numIs_nil : numIs [] = false := by
  cases h : numIs [] with
  | false => rfl
  | true => exact absurd (numIs_itoa h).symm (itoa_ne _)
theorem numN_no {l : List UInt8} (h : numIs l = false) : numN l = 0 := by
  unfold numIs at h; unfold numN
  cases hf : numF l with
  | none => rfl
  | some n => rw [hf] at h; cases h
theorem cutL_single {c : UInt8} {x a : List UInt8} (h : cutL c x = [a]) : x = a ∧ c ∉ a := by
  have h1 := joinL_cutL c x
  rw [h] at h1
  exact ⟨h1.symm, cutL_free c x a (by rw [h]; simp)⟩
theorem cutL_cons_inv {c : UInt8} {x a b : List UInt8} {r : List (List UInt8)} (h : cutL c x = a :: b :: r) : x = a ++ c :: joinL c (b :: r) ∧ c ∉ a := by
  have h1 := joinL_cutL c x
  rw [h, joinL_cons c a (by simp)] at h1
  exact ⟨h1.symm, cutL_free c x a (by rw [h]; simp)⟩
theorem hasSuffix_iff (x : List UInt8) (c : UInt8) : Lib.hasSuffix x [c] = true ↔ ∃ a, x = a ++ [c] := by
  rw [Lib.hasSuffix, List.isSuffixOf_iff_suffix]
  constructor
  · rintro ⟨a, h⟩; exact ⟨a, h.symm⟩
  · rintro ⟨a, h⟩; exact ⟨a, h.symm⟩
theorem hasSuffix_last (x : List UInt8) (c : UInt8) (h : x ≠ []) : Lib.hasSuffix x [c] = (x.getLast h == c) := by
  rw [Bool.eq_iff_iff, hasSuffix_iff]
  constructor
  · rintro ⟨a, rfl⟩; simp
  · intro e
    refine ⟨x.dropLast, ?_⟩
    rw [← eq_of_beq e, List.dropLast_concat_getLast h]
theorem one_bang (a : List UInt8) : oneB (a ++ [33]) = numIs a ∧ oneE (a ++ [33]) = ⟨0, numN a, false, 0⟩ := by
  rw [oneB, oneE, if_pos (hasSuffix_snoc _ _), if_pos (hasSuffix_snoc _ _), trimSuffix_snoc]
  exact ⟨rfl, rfl⟩
theorem index_no {x : List UInt8} {c : UInt8} (h : c ∉ x) : Lib.index x [c] = -1 := by
  refine Lib.index_none (fun j hj => ?_)
  rw [Lib.occAt]
  by_cases hl : j < x.length
  · rw [List.drop_eq_getElem_cons hl]
    have : x[j] ≠ c := fun e => h (e ▸ List.getElem_mem hl)
    have hb : (c == x[j]) = false := by simpa using this.symm
    unfold List.isPrefixOf
    rw [hb]; rfl
  · rw [List.drop_eq_nil_of_le (by omega)]; rfl
/-- No colon, no mark: none. -/
theorem one_plain {x : List UInt8} (h : (58 : UInt8) ∉ x) (hs : Lib.hasSuffix x [33] = false) : oneB x = false := by
  rw [oneB, if_neg (by simp [hs])]
  have : (Lib.cut x [58]).2.2 = false := by rw [Lib.cut, index_no h]; rfl
  rw [this]; rfl
/-- A colon, and none behind it. -/
theorem one_two {x a b : List UInt8} (h : cutL 58 x = [a, b]) : oneB x = (numIs a && numIs b) ∧ (oneB x = true → oneE x = ⟨0, numN a, true, numN b⟩) := by
  obtain ⟨hx, ha⟩ := cutL_cons_inv h
  have hx : x = a ++ 58 :: b := hx
  have hc : Lib.cut x [58] = (a, b, true) := by rw [hx]; exact cut_mid ha b
  cases hs : Lib.hasSuffix x [33]
  · rw [oneB, oneE, if_neg (by simp [hs]), if_neg (by simp [hs]), hc]
    exact ⟨by simp, fun _ => rfl⟩
  · obtain ⟨y, hy⟩ := (hasSuffix_iff x 33).1 hs
    have hb : (33 : UInt8) ∈ b := by
      rw [hx] at hy
      rcases List.eq_nil_or_concat b with rfl | ⟨b', z, rfl⟩
      · have := congrArg List.getLast? hy
        simp at this
      · rw [List.concat_eq_append] at hy ⊢
        have := congrArg List.getLast? hy
        rw [show a ++ 58 :: (b' ++ [z]) = (a ++ 58 :: b') ++ [z] by simp, List.getLast?_concat, List.getLast?_concat] at this
        cases this
        simp
    have h58 : (58 : UInt8) ∈ y := by
      have hm : (58 : UInt8) ∈ y ++ [33] := by rw [← hy, hx]; simp
      simpa using hm
    rw [hy, (one_bang y).1, (one_bang y).2, numIs_no h58 (by decide), numIs_no hb (by decide)]
    simp
/-- More than one colon: none. -/
theorem one_many {x a b c : List UInt8} {r : List (List UInt8)} (h : cutL 58 x = a :: b :: c :: r) : oneB x = false := by
  obtain ⟨hx, ha⟩ := cutL_cons_inv h
  rw [joinL_cons 58 b (by simp)] at hx
  have hc : Lib.cut x [58] = (a, b ++ 58 :: joinL 58 (c :: r), true) := by rw [hx]; exact cut_mid ha _
  have h58 : ∀ y : List UInt8, x = y ++ [33] → (58 : UInt8) ∈ y := fun y hy => by
    have hm : (58 : UInt8) ∈ y ++ [33] := by rw [← hy, hx]; simp
    simpa using hm
  cases hs : Lib.hasSuffix x [33]
  · rw [oneB, if_neg (by simp [hs]), hc]
    simp only
    rw [numIs_no (c := 58) (l := b ++ 58 :: joinL 58 (c :: r)) (by simp) (by decide)]
    simp
  · obtain ⟨y, hy⟩ := (hasSuffix_iff x 33).1 hs
    have := h58 y hy
    rw [hy, (one_bang y).1, numIs_no this (by decide)]
end Go.Proofs.YtkjmgfpbngiipaaGreatDoor
namespace Go.Proofs.YtkjmgfpbngiipaaGreatDoor
open Go.RowKit

/-- The last value that was heard of one node. -/
def lastV (n : Int) (es : List Ent) : Int := es.foldl (fun v e => if e.frm = n ∧ e.heard = true then e.value else v) 0
theorem lastV_nil (n : Int) : lastV n [] = 0 := rfl
theorem lastV_hit (n : Int) (es : List Ent) (k : Nat) (hk : k < es.length) (h : es[k].frm = n ∧ es[k].heard = true) : lastV n (es.take (k + 1)) = es[k].value := by
  rw [lastV, List.take_succ_eq_append_getElem hk, List.foldl_append]
  simp only [List.foldl_cons, List.foldl_nil]
  rw [if_pos h]
theorem lastV_miss (n : Int) (es : List Ent) (k : Nat) (hk : k < es.length) (h : ¬ (es[k].frm = n ∧ es[k].heard = true)) : lastV n (es.take (k + 1)) = lastV n (es.take k) := by
  rw [lastV, List.take_succ_eq_append_getElem hk, List.foldl_append]
  simp only [List.foldl_cons, List.foldl_nil]
  rw [if_neg h]; rfl
/-- The reference's list of the last values. -/
def lastL (es : List Ent) (m : Nat) : List Int := (List.range m).map fun i : Nat => lastV ((i : Int) + 1) es
theorem lastL_succ (es : List Ent) (m : Nat) : lastL es (m + 1) = lastL es m ++ [lastV ((m : Int) + 1) es] := by
  rw [lastL, List.range_succ, List.map_append]; rfl
theorem lastL_length (es : List Ent) (m : Nat) : (lastL es m).length = m := by simp [lastL]
theorem lastL_get (es : List Ent) (m i : Nat) : (lastL es m)[i]? = if i < m then some (lastV ((i : Int) + 1) es) else none := by
  unfold lastL
  rw [List.getElem?_map]
  split
  · rename_i h; rw [List.getElem?_range h]; rfl
  · rename_i h; rw [List.getElem?_eq_none (by simp; omega)]; rfl
theorem lastF_take (es : List Ent) (hf : ∀ k (hk : k < es.length), 1 ≤ es[k].frm ∧ es[k].frm ≤ 16) : ∀ k, k ≤ es.length → lastF (es.take k) = lastL (es.take k) 16
  | 0, _ => by rw [List.take_zero]; decide +kernel
  | k + 1, hk => by
    have ih := lastF_take es hf k (by omega)
    have h1 := hf k (by omega)
    rw [lastF_snoc es k (by omega), ih]
    apply List.ext_getElem?
    intro i
    rw [lastL_get]
    by_cases hm : es[k].frm = (i : Int) + 1 ∧ es[k].heard = true
    · have he : (es[k].frm - 1).toNat = i := by omega
      rw [lastStep, if_pos hm.2, he, if_pos (by omega), lastV_hit _ es k (by omega) hm]
      rw [List.getElem?_set_self (by rw [lastL_length]; omega)]
    · rw [lastV_miss _ es k (by omega) hm, lastStep]
      by_cases hh : es[k].heard = true
      · have he : (es[k].frm - 1).toNat ≠ i := fun e => hm ⟨by omega, hh⟩
        rw [if_pos hh, List.getElem?_set_ne he, lastL_get]
      · rw [if_neg hh, lastL_get]
theorem lastF_lastL {es : List Ent} (h : (chk es).1 = 0) : lastF es = lastL es 16 := by
  have := lastF_take es (fun k hk => by have := (chk_get h k hk).2.1; simpa only [nodeB, decide_eq_true_eq] using this) es.length (Nat.le_refl _)
  rwa [List.take_length] at this

theorem joinL_snoc (c : UInt8) : ∀ (ws : List (List UInt8)) (w : List UInt8), ws ≠ [] → joinL c (ws ++ [w]) = joinL c ws ++ c :: w
  | [], _, h => absurd rfl h
  | [x], w, _ => by rw [List.cons_append, List.nil_append, joinL_cons c x (by simp)]; rfl
  | x :: y :: r, w, _ => by
    rw [List.cons_append, joinL_cons c x (by simp), joinL_snoc c (y :: r) w (by simp), joinL_cons c x (by simp), List.append_assoc]; rfl
/-- What is written of the first k entries. -/
def histP (es : List Ent) (k : Nat) : List UInt8 := joinL 44 ((es.take k).map entT)
theorem histP_zero (es : List Ent) : histP es 0 = [] := rfl
theorem histP_one (es : List Ent) (h : 0 < es.length) : histP es 1 = entT es[0] := by
  rw [histP, List.take_succ_eq_append_getElem h]; rfl
theorem histP_succ (es : List Ent) (k : Nat) (hk : k < es.length) (h0 : 0 < k) : histP es (k + 1) = histP es k ++ ([44] ++ entT es[k]) := by
  rw [histP, List.take_succ_eq_append_getElem hk, List.map_append, List.map_cons, List.map_nil, joinL_snoc]
  · rfl
  · intro e
    have := congrArg List.length e
    simp only [List.length_map, List.length_take, List.length_nil] at this; omega
theorem histP_all (es : List Ent) (h : es ≠ []) : histP es es.length = histT es := by
  rw [histP, List.take_length, histT, if_neg h, join_joinL]
theorem histP_len {es : List Ent} (h : (chk es).1 = 0) (k : Nat) : (histP es k).length ≤ 2600 := by
  have hl := chk_len h
  rw [histP, ← join_joinL]
  refine Nat.le_trans (join_len12 _ (fun x hx => ?_)) (by rw [List.length_map, List.length_take]; omega)
  obtain ⟨e, he, rfl⟩ := List.mem_map.1 hx
  obtain ⟨j, hj, rfl⟩ := List.getElem_of_mem (List.mem_of_mem_take he)
  exact entT_len (chk_get h j hj).2.1 (chk_get h j hj).2.2.1
end Go.Proofs.YtkjmgfpbngiipaaGreatDoor
