/- Crews: what CrewParts says of them, in plain Lean. -/
import Derived.Test.YtbfocagicagehaaDoorCrewText
import Derived.Test.YtbfocagicagehaaDoorOnes
namespace Go.Proofs.YtbfocagicagehaaDoor
open Go.RowKit

theorem popTo_bit (c k : Nat) : popTo c (k + 1) = popTo c k + (c.testBit k).toNat := by rw [popTo, Nat.toNat_testBit]
theorem pop_parts (a b : Nat) : ∀ k, popTo (lessN a b) k + popTo (a &&& b) k = popTo a k
  | 0 => rfl
  | k + 1 => by
    have ih := pop_parts a b k
    rw [popTo_bit, popTo_bit, popTo_bit, lessN, Nat.testBit_xor, Nat.testBit_and]
    rw [lessN] at ih
    cases a.testBit k <;> cases b.testBit k <;> simp <;> omega
theorem pop_apart (a b c : Nat) (h : a &&& b = 0) : ∀ k, popTo (a &&& c) k + popTo (b &&& c) k ≤ popTo c k
  | 0 => Nat.le_refl _
  | k + 1 => by
    have ih := pop_apart a b c h k
    have hk : (a &&& b).testBit k = false := by rw [h]; simp
    rw [Nat.testBit_and] at hk
    rw [popTo_bit, popTo_bit, popTo_bit, Nat.testBit_and, Nat.testBit_and]
    cases ha : a.testBit k <;> cases hb : b.testBit k <;> cases c.testBit k <;> rw [ha, hb] at hk <;> simp at hk ⊢ <;> omega
theorem less_or_both (a b : Nat) : lessN a b ||| (a &&& b) = a := by
  apply Nat.eq_of_testBit_eq
  intro i
  rw [Nat.testBit_or, lessN, Nat.testBit_xor, Nat.testBit_and]
  cases a.testBit i <;> cases b.testBit i <;> rfl
theorem hasB_bit (c k : Nat) (hc : c < 65536) (hk : k < 16) : hasB (c : Int) ((k : Int) + 1) = c.testBit k := by
  have h1 : crewB (c : Int) = true := by simp only [crewB, decide_eq_true_eq]; omega
  have h2 : nodeB ((k : Int) + 1) = true := by simp only [nodeB, decide_eq_true_eq]; omega
  rw [hasB, h1, h2, Bool.true_and, Bool.true_and, Int.toNat_natCast, show ((k : Int) + 1).toNat - 1 = k by omega]
theorem mod_two_step (c k : Nat) : c % 2 ^ (k + 1) = c % 2 ^ k ||| (if c.testBit k then 2 ^ k else 0) := by
  apply Nat.eq_of_testBit_eq
  intro i
  rw [Nat.testBit_mod_two_pow, Nat.testBit_or, Nat.testBit_mod_two_pow]
  cases hb : c.testBit k
  · rw [if_neg (by decide), Nat.zero_testBit, Bool.or_false]
    by_cases e : i = k
    · subst e; rw [hb]; simp
    · congr 1; rw [decide_eq_decide]; omega
  · rw [if_pos rfl, Nat.testBit_two_pow]
    by_cases e : i = k
    · subst e; rw [hb]; simp
    · rw [show decide (k = i) = false by simp; omega, Bool.or_false]; congr 1; rw [decide_eq_decide]; omega
theorem bitOf_succ (k : Nat) : bitOf ((k : Int) + 1) = 2 ^ k := by rw [bitOf, show ((k : Int) + 1).toNat - 1 = k by omega]
theorem crewOf_list (c : Nat) (hc : c < 65536) : ∀ k, k ≤ 16 → crewOf (listTo c k) = c % 2 ^ k
  | 0, _ => by simp [listTo, crewOf, Nat.mod_one]
  | k + 1, h => by
    have ih := crewOf_list c hc k (by omega)
    have hb := hasB_bit c k hc (by omega)
    rw [mod_two_step, ← ih, listTo, hb]
    cases c.testBit k
    · simp
    · simp only [if_true]; rw [crewOf, List.foldl_append]; simp only [List.foldl_cons, List.foldl_nil]; rw [bitOf_succ]; rfl
theorem crewOf_list16 (c : Nat) (hc : c < 65536) : crewOf (listTo c 16) = c := by rw [crewOf_list c hc 16 (Nat.le_refl _)]; exact Nat.mod_eq_of_lt (by simpa using hc)
theorem listTo_mem (c : Int) : ∀ k, k ≤ 16 → ∀ x ∈ listTo c k, nodeB x = true ∧ 1 ≤ x ∧ x ≤ k
  | 0, _, x, hx => by cases hx
  | k + 1, hk, x, hx => by
    rw [listTo, List.mem_append] at hx
    rcases hx with hx | hx
    · have := listTo_mem c k (by omega) x hx; exact ⟨this.1, this.2.1, by omega⟩
    · split at hx
      · simp at hx; subst hx; exact ⟨by simp only [nodeB, decide_eq_true_eq]; omega, by omega, by omega⟩
      · cases hx
theorem read_list (c : Nat) (hc : c < 65536) : ∀ k : Nat, k ≤ 16 → ∃ last : Int, 0 ≤ last ∧ last ≤ (k : Int) ∧ readAcc ((listTo c k).map Lib.itoa) = some (c % 2 ^ k, last)
  | 0, _ => ⟨0, by omega, by omega, by simp [listTo, readAcc, Nat.mod_one]⟩
  | k + 1, h => by
    obtain ⟨last, h1, h2, h3⟩ := read_list c hc k (by omega)
    have hb := hasB_bit c k hc (by omega)
    rw [mod_two_step, listTo, hb]
    cases c.testBit k
    · exact ⟨last, h1, by omega, by simpa using h3⟩
    · refine ⟨(k : Int) + 1, by omega, by omega, ?_⟩
      simp only [if_true, List.map_append, List.map_cons, List.map_nil]
      rw [readAcc_snoc, h3, readStep, Option.bind_some, readOk_of (n := (k : Int) + 1) rfl (by simp only [nodeB, decide_eq_true_eq]; omega) (by simp only; omega)]
      simp only [Option.map_some]
      rw [bitOf_succ]
theorem join_joinL (c : UInt8) : ∀ l : List (List UInt8), Lib.join l [c] = joinL c l
  | [] => rfl
  | [x] => by simp [Lib.join, List.intercalate, joinL]
  | x :: y :: r => by
    have ih := join_joinL c (y :: r)
    rw [joinL_cons c x (by simp), ← ih]
    simp [Lib.join, List.intercalate, List.intersperse]
theorem itoa_no {c : UInt8} (hc : c.toNat < 45 ∨ c.toNat = 46 ∨ c.toNat = 47 ∨ 57 < c.toNat) (n : Int) : c ∉ Lib.itoa n := by
  intro h
  unfold Lib.itoa at h
  split at h
  · rcases List.mem_cons.1 h with rfl | h
    · revert hc; decide
    · have := decDigits_digit _ c h; omega
  · have := decDigits_digit _ c h; omega
theorem itoa_ne (n : Int) : Lib.itoa n ≠ [] := by
  unfold Lib.itoa; split
  · simp
  · exact decDigits_ne _
theorem cut_list (l : List Int) (hl : l ≠ []) : cutL 44 (Lib.join (l.map Lib.itoa) [44]) = l.map Lib.itoa := by
  rw [join_joinL]
  exact cutL_joinL 44 _ (by simpa using hl) (fun w hw => by obtain ⟨n, _, rfl⟩ := List.mem_map.1 hw; exact itoa_no (by decide) n)
/-- A crew is read as it was written. -/
theorem read_text (c : Nat) (hc : c < 65536) : readF (textF c) = some c := by
  have hcb : crewB (c : Int) = true := by simp only [crewB, decide_eq_true_eq]; omega
  rw [textF, if_pos hcb]
  by_cases h0 : c = 0
  · subst h0; rfl
  · rw [if_neg (by omega)]
    have hne : listTo c 16 ≠ [] := fun e => h0 (by have := crewOf_list16 c hc; rw [e] at this; exact this.symm)
    have hcut := cut_list _ hne
    have hs : Lib.join ((listTo c 16).map Lib.itoa) [44] ≠ [45] := fun e => by
      rw [e] at hcut
      have h1 : cutL 44 [45] = [[45]] := rfl
      rw [h1] at hcut
      have hm : ([45] : List UInt8) ∈ (listTo c 16).map Lib.itoa := by rw [← hcut]; simp
      obtain ⟨n, hn, hi⟩ := List.mem_map.1 hm
      have := (listTo_mem c 16 (Nat.le_refl _) n hn).2.1
      unfold Lib.itoa at hi
      rw [if_neg (by omega)] at hi
      have := decDigits_digit n.toNat 45 (by rw [hi]; simp)
      exact absurd this.1 (by decide)
    obtain ⟨last, _, _, h3⟩ := read_list c hc 16 (Nat.le_refl _)
    rw [readF, if_neg hs, hcut, h3, Option.map_some, Nat.mod_eq_of_lt (by simpa using hc)]
theorem and_lt {a b : Nat} (h : a < 65536) : a &&& b < 65536 := Nat.lt_of_le_of_lt Nat.and_le_left h
theorem lessN_lt {a b : Nat} (h : a < 65536) : lessN a b < 65536 := Nat.xor_lt_two_pow (n := 16) h (and_lt h)
end Go.Proofs.YtbfocagicagehaaDoor
