/- a tape's records: how they are written, and how a text is parted into them. -/
import Derived.Test.YtgghnncgeogemaaDoorNum
import Derived.Test.YtgghnncgeogemaaDoorTxt
import Derived.Test.YtgghnncgeogemaaDoorCut
namespace Go.Proofs.YtgghnncgeogemaaDoor
open Go.RowKit

/-- A record of a text. -/
def recB (s : List UInt8) : List UInt8 := Lib.itoa (s.length : Nat) ++ 58 :: (s ++ [10, 46])
/-- What stands before the first colon, and what behind it. -/
def headC (b : List UInt8) : List UInt8 := b.takeWhile (· != 58)
def restC (b : List UInt8) : List UInt8 := b.drop ((headC b).length + 1)
/-- The record at the beginning, if there is one. -/
def oneF (b : List UInt8) : Option (List UInt8) :=
  if (headC b).length < b.length then
    match numF (headC b) with
    | some n => if 0 ≤ n ∧ n ≤ 4000 ∧ n.toNat + 2 ≤ (restC b).length ∧ ((restC b).drop n.toNat).take 2 = [10, 46] then some ((restC b).take n.toNat) else none
    | none => none
  else none

theorem headC_app {d r : List UInt8} (h : (58 : UInt8) ∉ d) : headC (d ++ 58 :: r) = d := by
  unfold headC
  rw [List.takeWhile_append_of_pos]
  · simp
  · intro x hx
    simp only [bne_iff_ne, ne_eq]
    rintro rfl
    exact h hx
theorem takeW_all {p : UInt8 → Bool} : ∀ (b : List UInt8), ∀ x ∈ b.takeWhile p, p x = true
  | [], x, h => by simp at h
  | c :: r, x, h => by
    rw [List.takeWhile_cons] at h
    split at h
    · rename_i hc
      rcases List.mem_cons.1 h with rfl | h
      · exact hc
      · exact takeW_all r x h
    · simp at h
theorem headC_no (b : List UInt8) : (58 : UInt8) ∉ headC b := by
  intro h
  have := takeW_all b 58 h
  simp at this
theorem head_rest {b : List UInt8} (h : (headC b).length < b.length) : b = headC b ++ 58 :: restC b := by
  have hp : headC b <+: b := List.takeWhile_prefix _
  obtain ⟨r, hr⟩ := hp
  have hd : b.drop (headC b).length = r := by
    have e := congrArg (List.drop (headC b).length) hr
    rw [List.drop_left] at e
    exact e.symm
  have hne : r ≠ [] := by
    rintro rfl
    have := congrArg List.length hr
    simp at this; omega
  obtain ⟨c, q, rfl⟩ := List.exists_cons_of_ne_nil hne
  have hc : c = 58 := by
    have h1 : headC b = headC (headC b ++ c :: q) := by rw [hr]
    have hpos : ∀ x ∈ headC b, (x != 58) = true := fun x hx => by
      have := headC_no b
      simp only [bne_iff_ne, ne_eq]; rintro rfl; exact this hx
    unfold headC at h1 hpos
    rw [List.takeWhile_append_of_pos hpos] at h1
    by_cases hc : c = 58
    · exact hc
    · rw [List.takeWhile_cons_of_pos (by simpa using hc)] at h1
      have := congrArg List.length h1
      simp at this
  subst hc
  have h2 : restC b = q := by
    unfold restC
    rw [← List.drop_drop, hd]; rfl
  rw [h2]; exact hr.symm
theorem itoa_digits (n : Nat) : ∀ c ∈ Lib.itoa (n : Int), 48 ≤ c.toNat ∧ c.toNat ≤ 57 := by
  intro c hc
  have e : Lib.itoa (n : Int) = Lib.decDigits n := by
    unfold Lib.itoa
    rw [if_neg (by omega)]
    simp
  rw [e] at hc
  exact decDigits_digit n c hc
theorem itoa_noColon (n : Nat) : (58 : UInt8) ∉ Lib.itoa (n : Int) := fun h => by
  have := itoa_digits n 58 h
  simp at this
theorem headC_rec (s r : List UInt8) : headC (recB s ++ r) = Lib.itoa (s.length : Nat) := by
  rw [recB, List.append_assoc, List.cons_append]
  exact headC_app (itoa_noColon _)
theorem restC_rec (s r : List UInt8) : restC (recB s ++ r) = s ++ [10, 46] ++ r := by
  rw [restC, headC_rec, recB, List.append_assoc, List.cons_append]
  rw [← List.drop_drop, List.drop_left]
  rfl
theorem numF_itoa {n : Nat} (h : n < 10000000) : numF (Lib.itoa (n : Int)) = some (n : Int) := (numF_iff _ _).2 ⟨rfl, by omega, by omega⟩
/-- A record is read. -/
theorem oneF_rec {s : List UInt8} (hs : s.length ≤ 4000) (r : List UInt8) : oneF (recB s ++ r) = some s := by
  have hl : (headC (recB s ++ r)).length < (recB s ++ r).length := by rw [headC_rec, recB]; simp <;> omega
  rw [oneF, if_pos hl, headC_rec, numF_itoa (by omega), restC_rec]
  simp only [Int.toNat_natCast]
  rw [if_pos ⟨by omega, by omega, by simp <;> omega, by rw [List.append_assoc, List.drop_left]; rfl⟩, List.append_assoc, List.take_left]
/-- What is read is a record. -/
theorem oneF_some {b s : List UInt8} (h : oneF b = some s) : s.length ≤ 4000 ∧ ∃ r, b = recB s ++ r := by
  unfold oneF at h
  split at h
  · rename_i hl
    split at h
    · rename_i n hn
      split at h
      · rename_i hc
        obtain ⟨h0, h1, h2, h3⟩ := hc
        simp only [Option.some.injEq] at h
        have hn' := (numF_iff _ _).1 hn
        have hsl : s.length = n.toNat := by rw [← h, List.length_take]; omega
        refine ⟨by omega, ((restC b).drop n.toNat).drop 2, ?_⟩
        have e1 : Lib.itoa ((s.length : Nat) : Int) = headC b := by rw [hsl, show ((n.toNat : Nat) : Int) = n by omega]; exact hn'.1.symm
        have e2 : restC b = s ++ ([10, 46] ++ ((restC b).drop n.toNat).drop 2) := by
          conv => lhs; rw [← List.take_append_drop n.toNat (restC b), h]
          rw [← h3, List.take_append_drop]
        rw [recB, e1, List.append_assoc, List.cons_append, List.append_assoc]
        conv => lhs; rw [head_rest hl, e2]
      · cases h
    · cases h
  · cases h
theorem recB_len (s : List UInt8) : s.length + 4 ≤ (recB s).length := by
  rw [recB]
  have : 1 ≤ (Lib.itoa (s.length : Nat)).length := by
    have e : Lib.itoa ((s.length : Nat) : Int) = Lib.decDigits s.length := by
      unfold Lib.itoa
      rw [if_neg (by omega)]
      simp
    rw [e]
    have := decDigits_ne s.length
    cases h : Lib.decDigits s.length with
    | nil => exact absurd h this
    | cons a l => simp
  simp; omega

/-- A text's records: those at the beginning, as long as there is one. -/
def Parse (b : List UInt8) (l : List (List UInt8)) : Prop := (∀ s ∈ l, s.length ≤ 4000) ∧ ∃ r, b = l.flatMap recB ++ r ∧ oneF r = none
theorem parse_exists : ∀ (k : Nat) (b : List UInt8), b.length ≤ k → ∃ l, Parse b l
  | 0, b, h => ⟨[], by simp, b, rfl, by
      have : b = [] := List.eq_nil_of_length_eq_zero (by omega)
      subst this; rfl⟩
  | k + 1, b, h => by
    cases ho : oneF b with
    | none => exact ⟨[], by simp, b, rfl, ho⟩
    | some s =>
      obtain ⟨hs, r, rfl⟩ := oneF_some ho
      have hl := recB_len s
      obtain ⟨l, h1, q, rfl, h3⟩ := parse_exists k r (by simp at h; omega)
      exact ⟨s :: l, by simpa using ⟨hs, h1⟩, q, by simp, h3⟩
theorem parse_unique : ∀ (l m : List (List UInt8)) (b : List UInt8), Parse b l → Parse b m → l = m
  | [], [], _, _, _ => rfl
  | [], s :: m, b, ⟨_, r, h1, h2⟩, ⟨h3, q, h4, _⟩ => by
    exfalso
    simp at h1 h4
    subst h1
    rw [h4, oneF_rec (h3 s (by simp))] at h2
    cases h2
  | s :: l, [], b, ⟨h3, q, h4, _⟩, ⟨_, r, h1, h2⟩ => by
    exfalso
    simp at h1 h4
    subst h1
    rw [h4, oneF_rec (h3 s (by simp))] at h2
    cases h2
  | s :: l, t :: m, b, ⟨h1, r, h2, h3⟩, ⟨g1, q, g2, g3⟩ => by
    simp only [List.flatMap_cons, List.append_assoc] at h2 g2
    have e1 : oneF b = some s := by rw [h2]; exact oneF_rec (h1 s (by simp)) _
    have e2 : oneF b = some t := by rw [g2]; exact oneF_rec (g1 t (by simp)) _
    rw [e1] at e2
    obtain rfl := Option.some.inj e2
    rw [h2] at g2
    have e3 := List.append_cancel_left g2
    rw [parse_unique l m (l.flatMap recB ++ r) ⟨fun x hx => h1 x (by simp [hx]), r, rfl, h3⟩ ⟨fun x hx => g1 x (by simp [hx]), q, e3, g3⟩]
/-- What is less than a record is none. -/
theorem oneF_cut {s p : List UInt8} (hs : s.length ≤ 4000) (hp : p <+: recB s) (hl : p.length < (recB s).length) : oneF p = none := by
  cases ho : oneF p with
  | none => rfl
  | some t =>
    exfalso
    obtain ⟨ht, r, rfl⟩ := oneF_some ho
    obtain ⟨q, hq⟩ := hp
    rw [List.append_assoc] at hq
    have e1 := oneF_rec ht (r ++ q)
    rw [hq] at e1
    have e2 := oneF_rec hs []
    rw [List.append_nil] at e2
    rw [e2] at e1
    obtain rfl := Option.some.inj e1
    simp at hl
    omega
end Go.Proofs.YtgghnncgeogemaaDoor
