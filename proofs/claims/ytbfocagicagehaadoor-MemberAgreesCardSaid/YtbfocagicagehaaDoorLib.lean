/- Words for this seat's proofs: what a slice value reads as in a world, and that this abides every world in which nothing old has turned. No program in sight. -/
import Derived.WalkKit
import Derived.Lib.Hide
import Derived.Deep.Draws
namespace Go.Proofs.YtbfocagicagehaaDoor
open Go.RowKit

theorem below_drewN {B : Nat} {a w : World} (h : Below B a w) (n : Nat) : Below B a (w.drewN n) := ⟨h.os, h.tape, h.output, h.size, h.block⟩

/-- The cells from address 'a' on are 'cs' (nothing is said where 'cs' is empty). -/
def RowAt (w : World) (a : Option Addr) (cs : List Value) : Prop :=
  cs = [] ∨ ∃ b off, a = some ⟨b, off, none⟩ ∧ b < w.heap.size ∧ ∀ i v, cs[i]? = some v → w.cell? ⟨b, off + i, none⟩ = some v

theorem RowAt.nil (w : World) (a : Option Addr) : RowAt w a [] := Or.inl rfl

theorem RowAt.below {w w' : World} {a : Option Addr} {cs : List Value} (h : RowAt w a cs) (hb : Below w.heap.size w w') : RowAt w' a cs := by
  rcases h with h | ⟨b, off, rfl, hlt, hc⟩
  · exact Or.inl h
  · exact Or.inr ⟨b, off, rfl, Nat.lt_of_lt_of_le hlt hb.size, fun i v hv => (hb.cell (p := ⟨b, off + i, none⟩) hlt).trans (hc i v hv)⟩

theorem RowAt.at {w : World} {a : Option Addr} {cs : List Value} (h : RowAt w a cs) (hne : cs ≠ []) :
    ∃ b off, a = some ⟨b, off, none⟩ ∧ b < w.heap.size ∧ ∀ i v, cs[i]? = some v → w.cell? ⟨b, off + i, none⟩ = some v := h.resolve_left hne

theorem RowAt.cell {w : World} {b off : Nat} {cs : List Value} (h : RowAt w (some ⟨b, off, none⟩) cs) {i : Nat} {v : Value} (hv : cs[i]? = some v) : w.cell? ⟨b, off + i, none⟩ = some v := by
  rcases h with rfl | ⟨b', off', e, _, hc⟩
  · simp at hv
  · cases e; exact hc i v hv

theorem ret_bool {a b : Bool} (h : a = b) : Ending.returned (.bool a) = .returned (.bool b) := by rw [h]
theorem ret_int {k : IntKind} {a b : Int} (h : a = b) : Ending.returned (.int k a) = .returned (.int k b) := by rw [h]

theorem ret_v {a b : Value} (h : a = b) : Ending.returned a = .returned b := by rw [h]

theorem RowAt.drop {w : World} {a : Option Addr} {cs : List Value} (h : RowAt w a cs) (m : Nat) : RowAt w (a.map fun x => x.add m) (cs.drop m) := by
  rcases h with rfl | ⟨b, off, rfl, hlt, hc⟩
  · exact Or.inl (by simp)
  · refine Or.inr ⟨b, off + m, by simp only [Option.map_some, Addr.add]; split <;> simp_all, hlt, fun i v hv => ?_⟩
    rw [List.getElem?_drop] at hv
    rw [Nat.add_assoc]
    exact hc _ _ hv
theorem RowAt.take {w : World} {a : Option Addr} {cs : List Value} (h : RowAt w a cs) (m : Nat) : RowAt w a (cs.take m) := by
  rcases h with rfl | ⟨b, off, rfl, hlt, hc⟩
  · exact Or.inl (by simp)
  · refine Or.inr ⟨b, off, rfl, hlt, fun i v hv => hc i v ?_⟩
    rw [List.getElem?_take] at hv
    split at hv
    · exact hv
    · cases hv

def encInts (l : List Int) : List Value := l.map (Value.int .i64)
theorem encInts_length (l : List Int) : (encInts l).length = l.length := by simp [encInts]
/-- A number of a list in memory. -/
theorem RowAt.int {w : World} {a : Option Addr} {l : List Int} (h : RowAt w a (encInts l)) (k : Nat) (hk : k < l.length) :
    ∃ b off, a = some ⟨b, off, none⟩ ∧ b < w.heap.size ∧ w.cell? ⟨b, off + k, none⟩ = some (.int .i64 l[k]) := by
  obtain ⟨b, off, rfl, hlt, hc⟩ := h.at (fun e => by have := encInts_length l; rw [e] at this; simp at this; omega)
  exact ⟨b, off, rfl, hlt, hc k _ (by simp [encInts, hk])⟩

/-! ### errors: code 0 is nil; 1 to 11 are package api's -/

/-- The number of the package-level variable of an error's code in this seat. -/
def gOf : Nat → Nat
  | 1 => 2
  | 2 => 1
  | 3 => 7
  | 4 => 4
  | 5 => 3
  | 7 => 0
  | 8 => 8
  | 9 => 5
  | 10 => 6
  | _ => 0

/-- An error without a place: nil at 0, else the pointer that the variable of that code holds. -/
def errV (ea : Nat → Addr) (k : Nat) : Value := if k = 0 then .nilIface else .iface 147 (.pointer (some (ea k)))
theorem errV_zero (ea : Nat → Addr) : errV ea 0 = .nilIface := rfl
theorem errV_pos (ea : Nat → Addr) {k : Nat} (h : k ≠ 0) : errV ea k = .iface 147 (.pointer (some (ea k))) := by simp [errV, h]
/-- An error with a place. -/
def fltV (b : Nat) : Value := .iface 53 (.pointer (some ⟨b, 0, none⟩))

theorem nil_errV (ea : Nat → Addr) {k : Nat} (h : k = 0) : Value.nilIface = errV ea k := by rw [h]; rfl
attribute [irreducible] errV

/-- The variables of these codes hold their errors. -/
def Glob (w : World) (ea : Nat → Addr) (ks : List Nat) : Prop := ∀ k ∈ ks, gOf k < w.heap.size ∧ w.cell? ⟨gOf k, 0, none⟩ = some (errV ea k)
theorem Glob.below {w w' : World} {ea : Nat → Addr} {ks : List Nat} (h : Glob w ea ks) (hb : Below w.heap.size w w') : Glob w' ea ks := fun k hk =>
  ⟨Nat.lt_of_lt_of_le (h k hk).1 hb.size, (hb.cell (p := ⟨gOf k, 0, none⟩) (h k hk).1).trans (h k hk).2⟩
theorem Glob.lt {w : World} {ea : Nat → Addr} {ks : List Nat} (h : Glob w ea ks) (k : Nat) (hk : k ∈ ks) : gOf k < w.heap.size := (h k hk).1
theorem Glob.cell {w : World} {ea : Nat → Addr} {ks : List Nat} (h : Glob w ea ks) (k : Nat) (hk : k ∈ ks) : w.cell? ⟨gOf k, 0, none⟩ = some (errV ea k) := (h k hk).2
theorem Glob.sub {w : World} {ea : Nat → Addr} {ks ls : List Nat} (h : Glob w ea ks) (hs : ∀ k ∈ ls, k ∈ ks) : Glob w ea ls := fun k hk => h k (hs k hk)

/-- The value v is the error of that code, with that place (below 0: without one). -/
def ErrIs (ea : Nat → Addr) (w : World) (v : Value) (code : Nat) (pl : Int) : Prop :=
  (pl = -1 ∧ v = errV ea code) ∨ (0 ≤ pl ∧ code ≠ 0 ∧ ∃ b, v = fltV b ∧ b < w.heap.size ∧ w.cell? ⟨b, 0, none⟩ = some (.int .i64 pl) ∧ w.cell? ⟨b, 1, none⟩ = some (errV ea code))
theorem ErrIs.below {ea : Nat → Addr} {w w' : World} {v : Value} {code : Nat} {pl : Int} (h : ErrIs ea w v code pl) (hb : Below w.heap.size w w') : ErrIs ea w' v code pl := by
  rcases h with h | ⟨h0, h1, b, rfl, hlt, h2, h3⟩
  · exact Or.inl h
  · exact Or.inr ⟨h0, h1, b, rfl, Nat.lt_of_lt_of_le hlt hb.size, (hb.cell (p := ⟨b, 0, none⟩) hlt).trans h2, (hb.cell (p := ⟨b, 1, none⟩) hlt).trans h3⟩
theorem ErrIs.bare (ea : Nat → Addr) (w : World) (code : Nat) : ErrIs ea w (errV ea code) code (-1) := Or.inl ⟨rfl, rfl⟩
theorem ErrIs.nil {ea : Nat → Addr} {w : World} {v : Value} {pl : Int} (h : ErrIs ea w v 0 pl) : v = .nilIface := by
  rcases h with ⟨_, rfl⟩ | ⟨_, h, _⟩
  · exact errV_zero ea
  · exact absurd rfl h
/-- Not nil: an interface value that holds something. -/
theorem ErrIs.held {ea : Nat → Addr} {w : World} {v : Value} {code : Nat} {pl : Int} (h : ErrIs ea w v code pl) (hc : code ≠ 0) : ∃ t x, v = .iface t x := by
  rcases h with ⟨_, rfl⟩ | ⟨_, _, b, rfl, _⟩
  · exact ⟨_, _, errV_pos ea hc⟩
  · exact ⟨_, _, rfl⟩

/-! ### api.Entry -/
structure Ent where
  slot : Int
  frm : Int
  heard : Bool
  value : Int
  deriving DecidableEq, Inhabited
def Ent.cells (e : Ent) : List Value := [.int .i64 e.slot, .int .i64 e.frm, .bool e.heard, .int .i64 e.value]
def encEnts (l : List Ent) : List Value := l.flatMap Ent.cells
def Ent.v (e : Ent) : Value := .agg #[.int .i64 e.slot, .int .i64 e.frm, .bool e.heard, .int .i64 e.value]

theorem encEnts_length (es : List Ent) : (encEnts es).length = es.length * 4 := by
  induction es with
  | nil => rfl
  | cons e r ih => simp only [encEnts, List.flatMap_cons, List.length_append, List.length_cons] at ih ⊢; rw [ih]; simp [Ent.cells]; omega

theorem encEnts_get (es : List Ent) : ∀ (k : Nat) (hk : k < es.length) (j : Nat), j < 4 → (encEnts es)[k * 4 + j]? = (es[k].cells)[j]? := by
  induction es with
  | nil => intro k hk; simp at hk
  | cons e r ih =>
    intro k hk j hj
    have e4 : (e.cells).length = 4 := rfl
    simp only [encEnts, List.flatMap_cons]
    cases k with
    | zero => rw [List.getElem?_append_left (by rw [e4]; omega)]; simp
    | succ k =>
      rw [List.getElem?_append_right (by rw [e4]; omega), e4]
      have := ih k (by simpa using hk) j hj
      rw [show (k + 1) * 4 + j - 4 = k * 4 + j by omega]
      simpa [encEnts] using this

theorem encEnts_drop (es : List Ent) (k : Nat) : encEnts (es.drop k) = (encEnts es).drop (k * 4) := by
  induction es generalizing k with
  | nil => simp [encEnts]
  | cons e r ih =>
    cases k with
    | zero => simp
    | succ k =>
      have e4 : (e.cells).length = 4 := rfl
      have := ih k
      simp only [encEnts, List.flatMap_cons, List.drop_succ_cons] at this ⊢
      rw [this, List.drop_append, e4, List.drop_eq_nil_of_le (as := e.cells) (by rw [e4]; omega), List.nil_append, show (k + 1) * 4 - 4 = k * 4 by omega]
theorem encEnts_take (es : List Ent) (k : Nat) : encEnts (es.take k) = (encEnts es).take (k * 4) := by
  induction es generalizing k with
  | nil => simp [encEnts]
  | cons e r ih =>
    cases k with
    | zero => simp [encEnts]
    | succ k =>
      have e4 : (e.cells).length = 4 := rfl
      have := ih k
      simp only [encEnts, List.flatMap_cons, List.take_succ_cons] at this ⊢
      rw [this, List.take_append, e4, List.take_of_length_le (l := e.cells) (by rw [e4]; omega), show (k + 1) * 4 - 4 = k * 4 by omega]

/-- An entry of a history in memory. -/
theorem RowAt.ent {w : World} {a : Option Addr} {es : List Ent} (h : RowAt w a (encEnts es)) (k : Nat) (hk : k < es.length) :
    ∃ b off, a = some ⟨b, off, none⟩ ∧ b < w.heap.size ∧ w.cell? ⟨b, off + k * 4, none⟩ = some (.int .i64 es[k].slot) ∧ w.cell? ⟨b, off + k * 4 + 1, none⟩ = some (.int .i64 es[k].frm)
      ∧ w.cell? ⟨b, off + k * 4 + 2, none⟩ = some (.bool es[k].heard) ∧ w.cell? ⟨b, off + k * 4 + 3, none⟩ = some (.int .i64 es[k].value) := by
  have hne : encEnts es ≠ [] := fun e => by have := encEnts_length es; rw [e] at this; simp at this; omega
  obtain ⟨b, off, rfl, hlt, hc⟩ := h.at hne
  refine ⟨b, off, rfl, hlt, ?_, ?_, ?_, ?_⟩
  · have := hc (k * 4) _ (by rw [show k * 4 = k * 4 + 0 by omega, encEnts_get es k hk 0 (by omega)]; rfl); simpa using this
  · have := hc (k * 4 + 1) _ (by rw [encEnts_get es k hk 1 (by omega)]; rfl); simpa [Nat.add_assoc] using this
  · have := hc (k * 4 + 2) _ (by rw [encEnts_get es k hk 2 (by omega)]; rfl); simpa [Nat.add_assoc] using this
  · have := hc (k * 4 + 3) _ (by rw [encEnts_get es k hk 3 (by omega)]; rfl); simpa [Nat.add_assoc] using this

end Go.Proofs.YtbfocagicagehaaDoor
