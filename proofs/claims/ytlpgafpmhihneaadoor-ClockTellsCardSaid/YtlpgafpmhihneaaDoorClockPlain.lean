/- Clocks: the plain laws of the middle of sorted numbers. -/
import Derived.Test.YtlpgafpmhihneaaDoorClock
namespace Go.Proofs.YtlpgafpmhihneaaDoor

theorem sortL_sorted (l : List Int) : (sortL l).Pairwise (· ≤ ·) := by
  have h := List.pairwise_mergeSort (le := fun x y : Int => decide (x ≤ y)) (by intro a b c; simp; omega) (by intro a b; simp; omega) l
  exact h.imp (fun h => by simpa using h)
theorem sortL_perm (l : List Int) : (sortL l).Perm l := List.mergeSort_perm l _
theorem sortL_count (l : List Int) (p : Int → Bool) : (sortL l).countP p = l.countP p := (sortL_perm l).countP_eq p

theorem sorted_le {x : List Int} (h : x.Pairwise (· ≤ ·)) {i j : Nat} (hij : i ≤ j) (hj : j < x.length) : x.getD i 0 ≤ x.getD j 0 := by
  rw [List.getD_eq_getElem?_getD, List.getD_eq_getElem?_getD, List.getElem?_eq_getElem (by omega), List.getElem?_eq_getElem hj]
  simp only [Option.getD_some]
  rcases Nat.lt_or_eq_of_le hij with h1 | rfl
  · exact List.pairwise_iff_getElem.1 h i j (by omega) hj h1
  · exact Int.le_refl _

/-- If the k-th has p, and p goes down, the first k + 1 have it. -/
theorem count_low {x : List Int} (h : x.Pairwise (· ≤ ·)) {k : Nat} (hk : k < x.length) (p : Int → Bool) (hd : ∀ a b, a ≤ b → p b = true → p a = true) (hp : p (x.getD k 0) = true) : k + 1 ≤ x.countP p := by
  have h1 : (x.take (k + 1)).countP p = (x.take (k + 1)).length := by
    rw [List.countP_eq_length]
    intro a ha
    obtain ⟨i, hi, rfl⟩ := List.getElem_of_mem ha
    have hi' : i < k + 1 := by rw [List.length_take] at hi; omega
    have := sorted_le h (i := i) (j := k) (by omega) hk
    refine hd _ _ ?_ hp
    rw [List.getElem_take]
    rw [List.getD_eq_getElem?_getD, List.getElem?_eq_getElem (by omega)] at this
    exact this
  have h2 : (x.take (k + 1)).countP p ≤ x.countP p := (List.take_sublist _ _).countP_le
  rw [h1, List.length_take] at h2; omega
theorem count_high {x : List Int} (h : x.Pairwise (· ≤ ·)) {k : Nat} (hk : k < x.length) (p : Int → Bool) (hu : ∀ a b, a ≤ b → p a = true → p b = true) (hp : p (x.getD k 0) = true) : x.length - k ≤ x.countP p := by
  have h1 : (x.drop k).countP p = (x.drop k).length := by
    rw [List.countP_eq_length]
    intro a ha
    obtain ⟨i, hi, rfl⟩ := List.getElem_of_mem ha
    have hi' : k + i < x.length := by rw [List.length_drop] at hi; omega
    have := sorted_le h (i := k) (j := k + i) (by omega) hi'
    refine hu _ _ ?_ hp
    rw [List.getElem_drop]
    rw [List.getD_eq_getElem?_getD (i := k + i), List.getElem?_eq_getElem hi'] at this
    exact this
  have h2 : (x.drop k).countP p ≤ x.countP p := (List.drop_sublist _ _).countP_le
  rw [h1, List.length_drop] at h2; omega
theorem dec_lt (a v : Int) : decide (v ≤ a) = !decide (a < v) := by
  by_cases h : a < v
  · rw [decide_eq_true h, decide_eq_false (by omega)]; rfl
  · rw [decide_eq_false h, decide_eq_true (by omega)]; rfl
theorem dec_le (a v : Int) : decide (v < a) = !decide (a ≤ v) := by
  by_cases h : a ≤ v
  · rw [decide_eq_true h, decide_eq_false (by omega)]; rfl
  · rw [decide_eq_false h, decide_eq_true (by omega)]; rfl
theorem countP_not (x : List Int) (p q : Int → Bool) (h : ∀ a, q a = !p a) : x.countP p + x.countP q = x.length := by
  induction x with
  | nil => rfl
  | cons a r ih => simp only [List.countP_cons, List.length_cons, h a]; cases p a <;> simp <;> omega

/-- The k-th of all is at least what at most k are below. -/
theorem ge_of_few {L : List Int} {k : Nat} (hk : k < L.length) (v : Int) (h : L.countP (fun a => decide (a < v)) ≤ k) : v ≤ (sortL L).getD k 0 := by
  rcases Int.lt_or_le ((sortL L).getD k 0) v with hlt | hge
  · have := count_low (sortL_sorted L) (k := k) (by rw [sortL_length]; exact hk) (fun a => decide (a < v)) (by intro a b hab hb; simp at hb ⊢; omega) (by simpa using hlt)
    rw [sortL_count] at this; omega
  · exact hge
/-- The k-th of all is at most what more than k are not above. -/
theorem le_of_many {L : List Int} {k : Nat} (hk : k < L.length) (v : Int) (h : k + 1 ≤ L.countP (fun a => decide (a ≤ v))) : (sortL L).getD k 0 ≤ v := by
  rcases Int.lt_or_le v ((sortL L).getD k 0) with hlt | hge
  · have h1 := count_high (sortL_sorted L) (k := k) (by rw [sortL_length]; exact hk) (fun a => decide (v < a)) (by intro a b hab hb; simp at hb ⊢; omega) (by simpa using hlt)
    have h2 := countP_not L (fun a => decide (a ≤ v)) (fun a => decide (v < a)) (fun a => dec_le a v)
    rw [sortL_count, sortL_length] at h1; omega
  · exact hge
theorem many_of_sorted (R : List Int) {k : Nat} (hk : k < R.length) : k + 1 ≤ R.countP (fun a => decide (a ≤ (sortL R).getD k 0)) := by
  have := count_low (sortL_sorted R) (k := k) (by rw [sortL_length]; exact hk) (fun a => decide (a ≤ (sortL R).getD k 0)) (by intro a b hab hb; simp at hb ⊢; omega) (by simp)
  rwa [sortL_count] at this
theorem few_of_sorted (R : List Int) {k : Nat} (hk : k < R.length) : R.countP (fun a => decide (a < (sortL R).getD k 0)) ≤ k := by
  have h1 := count_high (sortL_sorted R) (k := k) (by rw [sortL_length]; exact hk) (fun a => decide ((sortL R).getD k 0 ≤ a)) (by intro a b hab hb; simp at hb ⊢; omega) (by simp)
  have h2 := countP_not R (fun a => decide (a < (sortL R).getD k 0)) (fun a => decide ((sortL R).getD k 0 ≤ a)) (fun a => dec_lt a _)
  rw [sortL_count, sortL_length] at h1; omega

/-- Right numbers, and k wrong ones wherever they stand: the k-th from below and from above, between those of the right ones. -/
theorem between_low {R W L : List Int} (hp : L.Perm (R ++ W)) {k : Nat} (hW : W.length ≤ k) (hk : k < L.length) (low : Int) (hlow : ∀ a ∈ R, low ≤ a) : low ≤ (sortL L).getD k 0 := by
  refine ge_of_few hk low ?_
  rw [hp.countP_eq, List.countP_append, List.countP_eq_zero.2 (fun a ha => by have := hlow a ha; simp; omega)]
  have := List.countP_le_length (l := W) (p := fun a => decide (a < low))
  omega
theorem between_high {R W L : List Int} (hp : L.Perm (R ++ W)) {k : Nat} (hW : W.length ≤ k) (hk : k < L.length) (high : Int) (hhigh : ∀ a ∈ R, a ≤ high) : (sortL L).getD (L.length - 1 - k) 0 ≤ high := by
  refine le_of_many (by omega) high ?_
  have hl : L.length = R.length + W.length := by rw [hp.length_eq, List.length_append]
  rw [hp.countP_eq, List.countP_append, List.countP_eq_length.2 (fun a ha => by have := hhigh a ha; simpa using this)]
  omega
theorem mid_between {R W L : List Int} (hp : L.Perm (R ++ W)) (hk : 2 * W.length + 1 ≤ L.length) (low high : Int) (hlow : ∀ a ∈ R, low ≤ a) (hhigh : ∀ a ∈ R, a ≤ high) : low ≤ midV L W.length ∧ midV L W.length ≤ high := by
  have h1 := between_low hp (Nat.le_refl _) (by omega) low hlow
  have h2 := between_high hp (Nat.le_refl _) (by omega) high hhigh
  have h3 := sorted_le (sortL_sorted L) (i := W.length) (j := L.length - 1 - W.length) (by omega) (by rw [sortL_length]; omega)
  unfold midV; omega

/-- Two who see the right ones alike. -/
theorem mid_near {R A L : List Int} (hp : L.Perm (R ++ A)) (hk : 2 * A.length + 1 ≤ R.length) :
    (sortL R).getD 0 0 + (sortL R).getD (R.length - 1 - A.length) 0 ≤ (sortL L).getD A.length 0 + (sortL L).getD (L.length - 1 - A.length) 0
    ∧ (sortL L).getD A.length 0 + (sortL L).getD (L.length - 1 - A.length) 0 ≤ (sortL R).getD A.length 0 + (sortL R).getD (R.length - 1) 0 := by
  have hl : L.length = R.length + A.length := by rw [hp.length_eq, List.length_append]
  have hc : ∀ p : Int → Bool, L.countP p = R.countP p + A.countP p := fun p => by rw [hp.countP_eq, List.countP_append]
  have hA : ∀ p : Int → Bool, A.countP p ≤ A.length := fun p => List.countP_le_length
  have m1 := few_of_sorted R (k := 0) (by omega)
  have a1 := ge_of_few (L := L) (k := A.length) (by omega) ((sortL R).getD 0 0) (by rw [hc]; have := hA (fun a => decide (a < (sortL R).getD 0 0)); omega)
  have m2 := few_of_sorted R (k := R.length - 1 - A.length) (by omega)
  have a2 := ge_of_few (L := L) (k := L.length - 1 - A.length) (by omega) ((sortL R).getD (R.length - 1 - A.length) 0) (by rw [hc]; have := hA (fun a => decide (a < (sortL R).getD (R.length - 1 - A.length) 0)); omega)
  have m3 := many_of_sorted R (k := A.length) (by omega)
  have a3 := le_of_many (L := L) (k := A.length) (by omega) ((sortL R).getD A.length 0) (by rw [hc]; omega)
  have m4 := many_of_sorted R (k := R.length - 1) (by omega)
  have a4 := le_of_many (L := L) (k := L.length - 1 - A.length) (by omega) ((sortL R).getD (R.length - 1) 0) (by rw [hc]; omega)
  omega
theorem mid_halves {R A B L M : List Int} (hL : L.Perm (R ++ A)) (hM : M.Perm (R ++ B)) (hab : B.length = A.length) (hk : 2 * A.length + 1 ≤ R.length) (low high : Int) (hlow : low = (sortL R).getD 0 0) (hhigh : high = (sortL R).getD (R.length - 1) 0) :
    2 * (midV L A.length - midV M A.length) ≤ high - low + 2 ∧ 2 * (midV M A.length - midV L A.length) ≤ high - low + 2 := by
  obtain ⟨h1, h2⟩ := mid_near hL hk
  obtain ⟨h3, h4⟩ := mid_near hM (by omega)
  rw [hab] at h3 h4
  have h5 := sorted_le (sortL_sorted R) (i := A.length) (j := R.length - 1 - A.length) (by omega) (by rw [sortL_length]; omega)
  unfold midV; omega

theorem foldl_max (l : List Int) : ∀ m : Int, m ≤ l.foldl max m ∧ (∀ a ∈ l, a ≤ l.foldl max m) ∧ (l.foldl max m = m ∨ l.foldl max m ∈ l) := by
  induction l with
  | nil => intro m; simp
  | cons x r ih =>
    intro m
    obtain ⟨h1, h2, h3⟩ := ih (max m x)
    simp only [List.foldl_cons, List.mem_cons, forall_eq_or_imp]
    refine ⟨by omega, ⟨by omega, h2⟩, ?_⟩
    rcases h3 with h3 | h3
    · rw [h3]; rcases Int.le_total m x with h | h
      · rw [Int.max_eq_right h]; exact Or.inr (Or.inl rfl)
      · rw [Int.max_eq_left h]; exact Or.inl rfl
    · exact Or.inr (Or.inr h3)
theorem foldl_min (l : List Int) : ∀ m : Int, l.foldl min m ≤ m ∧ (∀ a ∈ l, l.foldl min m ≤ a) ∧ (l.foldl min m = m ∨ l.foldl min m ∈ l) := by
  induction l with
  | nil => intro m; simp
  | cons x r ih =>
    intro m
    obtain ⟨h1, h2, h3⟩ := ih (min m x)
    simp only [List.foldl_cons, List.mem_cons, forall_eq_or_imp]
    refine ⟨by omega, ⟨by omega, h2⟩, ?_⟩
    rcases h3 with h3 | h3
    · rw [h3]; rcases Int.le_total m x with h | h
      · rw [Int.min_eq_left h]; exact Or.inl rfl
      · rw [Int.min_eq_right h]; exact Or.inr (Or.inl rfl)
    · exact Or.inr (Or.inr h3)
theorem maxOf_max {l : List Int} (h : l ≠ []) : Lib.maxOf l ∈ l ∧ ∀ a ∈ l, a ≤ Lib.maxOf l := by
  obtain ⟨h1, h2, h3⟩ := foldl_max l (l.headD 0)
  refine ⟨?_, h2⟩
  rcases h3 with h3 | h3
  · rw [Lib.maxOf, h3]; cases l with
    | nil => exact absurd rfl h
    | cons x r => simp
  · exact h3
theorem minOf_min {l : List Int} (h : l ≠ []) : Lib.minOf l ∈ l ∧ ∀ a ∈ l, Lib.minOf l ≤ a := by
  obtain ⟨h1, h2, h3⟩ := foldl_min l (l.headD 0)
  refine ⟨?_, h2⟩
  rcases h3 with h3 | h3
  · rw [Lib.minOf, h3]; cases l with
    | nil => exact absurd rfl h
    | cons x r => simp
  · exact h3
theorem getD_mem {x : List Int} {k : Nat} (hk : k < x.length) : x.getD k 0 ∈ x := by
  rw [List.getD_eq_getElem?_getD, List.getElem?_eq_getElem hk]; exact List.getElem_mem _
theorem minOf_sorted {l : List Int} (h : l ≠ []) : Lib.minOf l = (sortL l).getD 0 0 := by
  obtain ⟨h1, h2⟩ := minOf_min h
  have hl : 0 < l.length := List.length_pos_iff.2 h
  have hm := (sortL_perm l).mem_iff.1 (getD_mem (x := sortL l) (k := 0) (by rw [sortL_length]; exact hl))
  have a := h2 _ hm
  obtain ⟨i, hi, e⟩ := List.getElem_of_mem ((sortL_perm l).mem_iff.2 h1)
  have b := sorted_le (sortL_sorted l) (i := 0) (j := i) (by omega) hi
  rw [List.getD_eq_getElem?_getD (i := i), List.getElem?_eq_getElem hi, Option.getD_some, e] at b
  omega
theorem maxOf_sorted {l : List Int} (h : l ≠ []) : Lib.maxOf l = (sortL l).getD (l.length - 1) 0 := by
  obtain ⟨h1, h2⟩ := maxOf_max h
  have hl : 0 < l.length := List.length_pos_iff.2 h
  have hm := (sortL_perm l).mem_iff.1 (getD_mem (x := sortL l) (k := l.length - 1) (by rw [sortL_length]; omega))
  have a := h2 _ hm
  obtain ⟨i, hi, e⟩ := List.getElem_of_mem ((sortL_perm l).mem_iff.2 h1)
  have b := sorted_le (sortL_sorted l) (i := i) (j := l.length - 1) (by rw [sortL_length] at hi; omega) (by rw [sortL_length]; omega)
  rw [List.getD_eq_getElem?_getD (i := i), List.getElem?_eq_getElem hi, Option.getD_some, e] at b
  omega
end Go.Proofs.YtlpgafpmhihneaaDoor
