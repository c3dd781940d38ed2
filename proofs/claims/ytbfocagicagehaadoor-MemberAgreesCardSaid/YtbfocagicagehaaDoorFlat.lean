/- Rows of structs and of texts in memory. No program in sight. -/
import Derived.Test.YtbfocagicagehaaDoorAppend
namespace Go.Proofs.YtbfocagicagehaaDoor
open Go.RowKit

section
variable {α β : Type}
theorem flat_length (f : α → List β) (q : Nat) (hq : ∀ x, (f x).length = q) (l : List α) : (l.flatMap f).length = l.length * q := by
  induction l with
  | nil => simp
  | cons e r ih => simp only [List.flatMap_cons, List.length_append, List.length_cons, ih, hq]; rw [Nat.add_mul]; omega
theorem flat_get (f : α → List β) (q : Nat) (hq : ∀ x, (f x).length = q) (l : List α) : ∀ (k : Nat) (hk : k < l.length) (j : Nat), j < q → (l.flatMap f)[k * q + j]? = (f l[k])[j]? := by
  induction l with
  | nil => intro k hk; simp at hk
  | cons e r ih =>
    intro k hk j hj
    simp only [List.flatMap_cons]
    cases k with
    | zero => rw [List.getElem?_append_left (by rw [hq]; omega)]; simp
    | succ k =>
      have e1 : (k + 1) * q = k * q + q := by rw [Nat.add_mul]; omega
      rw [List.getElem?_append_right (by rw [hq, e1]; omega), hq, show (k + 1) * q + j - q = k * q + j by rw [e1]; omega]
      have := ih k (by simpa using hk) j hj
      simpa using this
theorem flat_drop (f : α → List β) (q : Nat) (hq : ∀ x, (f x).length = q) (l : List α) (k : Nat) : (l.drop k).flatMap f = (l.flatMap f).drop (k * q) := by
  induction l generalizing k with
  | nil => simp
  | cons e r ih =>
    cases k with
    | zero => simp
    | succ k =>
      have e1 : (k + 1) * q = k * q + q := by rw [Nat.add_mul]; omega
      rw [List.drop_succ_cons, ih k, List.flatMap_cons, List.drop_append, hq, List.drop_eq_nil_of_le (as := f e) (by rw [hq, e1]; omega), List.nil_append, show (k + 1) * q - q = k * q by rw [e1]; omega]
theorem flat_take (f : α → List β) (q : Nat) (hq : ∀ x, (f x).length = q) (l : List α) (k : Nat) : (l.take k).flatMap f = (l.flatMap f).take (k * q) := by
  induction l generalizing k with
  | nil => simp
  | cons e r ih =>
    cases k with
    | zero => simp
    | succ k =>
      have e1 : (k + 1) * q = k * q + q := by rw [Nat.add_mul]; omega
      rw [List.take_succ_cons, List.flatMap_cons, ih k, List.flatMap_cons, List.take_append, hq, List.take_of_length_le (l := f e) (by rw [hq, e1]; omega), show (k + 1) * q - q = k * q by rw [e1]; omega]
end

/-- The cells of one of a row of structs. -/
theorem RowAt.flat {α : Type} {f : α → List Value} {w : World} {a : Option Addr} {l : List α} (h : RowAt w a (l.flatMap f)) (q : Nat) (hq : ∀ x, (f x).length = q) (h0 : 0 < q) (k : Nat) (hk : k < l.length) :
    ∃ b off, a = some ⟨b, off, none⟩ ∧ b < w.heap.size ∧ ∀ j v, (f l[k])[j]? = some v → w.cell? ⟨b, off + k * q + j, none⟩ = some v := by
  have hne : l.flatMap f ≠ [] := fun e => by
    have := flat_length f q hq l
    rw [e] at this
    have := Nat.mul_pos (show 0 < l.length by omega) h0
    simp at *; omega
  obtain ⟨b, off, rfl, hlt, hc⟩ := h.at hne
  refine ⟨b, off, rfl, hlt, fun j v hv => ?_⟩
  have hj : j < q := by rw [← hq l[k]]; exact (List.getElem?_eq_some_iff.1 hv).1
  rw [Nat.add_assoc]
  exact hc _ _ (by rw [flat_get f q hq l k hk j hj]; exact hv)

/-! ### texts -/
def encStrs (l : List ByteArray) : List Value := l.map Value.string
theorem encStrs_length (l : List ByteArray) : (encStrs l).length = l.length := by simp [encStrs]
theorem RowAt.str {w : World} {a : Option Addr} {l : List ByteArray} (h : RowAt w a (encStrs l)) (k : Nat) (hk : k < l.length) :
    ∃ b off, a = some ⟨b, off, none⟩ ∧ b < w.heap.size ∧ w.cell? ⟨b, off + k, none⟩ = some (.string l[k]) := by
  obtain ⟨b, off, rfl, hlt, hc⟩ := h.at (fun e => by have := encStrs_length l; rw [e] at this; simp at this; omega)
  exact ⟨b, off, rfl, hlt, hc k _ (by simp [encStrs, hk])⟩
theorem encStrs_one (l : List ByteArray) : ∀ u ∈ encStrs l, u.oneCell' = true := by
  intro u hu; obtain ⟨s, _, rfl⟩ := List.mem_map.1 hu; rfl
theorem encInts_one (l : List Int) : ∀ u ∈ encInts l, u.oneCell' = true := by
  intro u hu; obtain ⟨s, _, rfl⟩ := List.mem_map.1 hu; rfl

/-- What was sent, or of a model. -/
structure Snt where
  node : Int
  tick : Int
  text : ByteArray
def Snt.cells (s : Snt) : List Value := [.int .i64 s.node, .int .i64 s.tick, .string s.text]
theorem Snt.len (s : Snt) : s.cells.length = 3 := rfl
def encSents (l : List Snt) : List Value := l.flatMap Snt.cells
theorem RowAt.snt {w : World} {a : Option Addr} {l : List Snt} (h : RowAt w a (encSents l)) (k : Nat) (hk : k < l.length) :
    ∃ b off, a = some ⟨b, off, none⟩ ∧ b < w.heap.size ∧ w.cell? ⟨b, off + k * 3, none⟩ = some (.int .i64 l[k].node) ∧ w.cell? ⟨b, off + k * 3 + 1, none⟩ = some (.int .i64 l[k].tick) ∧ w.cell? ⟨b, off + k * 3 + 2, none⟩ = some (.string l[k].text) := by
  obtain ⟨b, off, e, hlt, hc⟩ := h.flat 3 Snt.len (by omega) k hk
  exact ⟨b, off, e, hlt, by simpa using hc 0 _ rfl, hc 1 _ rfl, hc 2 _ rfl⟩
theorem Snt.one (s : Snt) : ∀ u ∈ s.cells, u.oneCell' = true := by
  intro u hu; simp [Snt.cells] at hu; rcases hu with rfl | rfl | rfl <;> rfl
theorem encSents_snoc (xs : List Snt) (s : Snt) : encSents (xs ++ [s]) = encSents xs ++ s.cells := by simp [encSents]

theorem encStrs_snoc (xs : List ByteArray) (s : ByteArray) : encStrs (xs ++ [s]) = encStrs xs ++ [.string s] := by simp [encStrs]
theorem encInts_snoc (xs : List Int) (s : Int) : encInts (xs ++ [s]) = encInts xs ++ [.int .i64 s] := by simp [encInts]
theorem encInts_drop (l : List Int) (k : Nat) : encInts (l.drop k) = (encInts l).drop k := by simp [encInts]
theorem encInts_take (l : List Int) (k : Nat) : encInts (l.take k) = (encInts l).take k := by simp [encInts]
theorem encStrs_drop (l : List ByteArray) (k : Nat) : encStrs (l.drop k) = (encStrs l).drop k := by simp [encStrs]
theorem encStrs_take (l : List ByteArray) (k : Nat) : encStrs (l.take k) = (encStrs l).take k := by simp [encStrs]
theorem below_grows {w w' : World} (hb : Below w.heap.size w w') (row : Option Nat) : w.grownBy w' row := ⟨hb.os, hb.tape, hb.output, hb.size, fun b h _ => hb.block b h⟩
theorem setCell_grows (w : World) (b i : Nat) (u : Value) : w.grownBy (w.setCell ⟨b, i, none⟩ u) (some b) := ⟨rfl, rfl, rfl, by simp, fun k _ hk => heap_setCell_other w ⟨b, i, none⟩ k u (fun e => hk (by simp [e]))⟩
theorem ownsRow_below {w w' : World} {base : Nat} {e : TypeId} {size : Nat} {v : Value} {n : Nat} {xs : List Value} (h : w.ownsRow base e size v n xs) (hb : Below w.heap.size w w') : w'.ownsRow base e size v n xs :=
  h.kept (below_grows hb none) (by cases v.ownBlock <;> simp)
theorem ownsRow_rebase {w : World} {base base' : Nat} {e : TypeId} {size : Nat} {v : Value} {n : Nat} {xs : List Value} (h : w.ownsRow base e size v n xs) (hb : base' ≤ base) : w.ownsRow base' e size v n xs := by
  refine ⟨h.1, ?_⟩
  rcases h.2 with h | ⟨g, cap, cur, h1, h2, h3⟩
  · exact Or.inl h
  · exact Or.inr ⟨g, cap, cur, h1, Nat.le_trans hb h2, h3⟩
end Go.Proofs.YtbfocagicagehaaDoor
