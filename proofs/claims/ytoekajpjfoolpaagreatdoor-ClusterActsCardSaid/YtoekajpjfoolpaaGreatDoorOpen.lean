/- From the rows' readings of the arguments to the words of this seat. -/
import Derived.Test.YtoekajpjfoolpaaGreatDoorLib
import Derived.Test.YtoekajpjfoolpaaGreatDoorProg
import Derived.ProofKit
import Derived.LaidMore
import Derived.OpenShut
import Derived.Deep.Slices
import Derived.Stop.Joined
import Derived.Stop.LaidErr
import Derived.SizedLaws
namespace Go.Proofs.YtoekajpjfoolpaaGreatDoor
open Go.ChangeShapes Go.WideShapes Go.ChangeAt Go.WideElems Go.RowKit

section
variable {H : Type} {enc : TypeId × Value → H} {w : World} {base : Nat} {spare : Nat → Bool} {held : Bool}

theorem len4 {α : Type} : ∀ (l : List α), l.length = 4 → ∃ a b c d, l = [a, b, c, d]
  | [a, b, c, d], _ => ⟨a, b, c, d, rfl⟩
theorem cells3 : Tryz.prog.cellsOf 3 = 1 := by kernel_rfl

/-- A slice of ints. -/
theorem open_intsL {t : TypeId} (ht : Tryz.prog.underlying t = some (.slice 3)) {fuel : Nat} {a : Option Addr} {n cap : Nat} {x : DataW H × List MemPlace} (h : DataW.trod enc Tryz.prog w base spare held fuel t [.slice a n cap] = some x) :
    ∃ l : List Int, l.length = n ∧ RowAt w a (encInts l) ∧ n ≤ cap ∧ cap ≤ maxLen ∧ (∀ z ∈ l, (Lit.int .i64 z).wf = true) ∧ ((x.1 = .nil ∧ n = 0) ∨ ∃ elems sp, x.1 = .slice elems sp ∧ elems.length = n) := by
  rcases open_ints ht Tryz.underlying3 cells3 h with ⟨hcs, hx⟩ | ⟨a', len', cap', zs, hcs, _, hl, hm, hz, hx, hcell, hwz⟩
  · simp only [List.cons.injEq, Value.slice.injEq, and_true] at hcs
    obtain ⟨rfl, rfl, rfl⟩ := hcs
    exact ⟨[], rfl, Or.inl rfl, Nat.le_refl _, by simp [maxLen], by simp, Or.inl ⟨by rw [hx], rfl⟩⟩
  · simp only [List.cons.injEq, Value.slice.injEq, and_true] at hcs
    obtain ⟨rfl, rfl, rfl⟩ := hcs
    have hzn : n ≤ zs.length := by rw [hz]; split <;> omega
    refine ⟨zs.take n, by simp; omega, ?_, hl, hm, fun z hz' => hwz z (List.mem_of_mem_take hz'), Or.inr ⟨_, _, by rw [hx], by simp [lits]; omega⟩⟩
    by_cases h0 : n = 0
    · subst h0; exact Or.inl (by simp [encInts])
    · obtain ⟨b, off, rfl, hc⟩ := ints_at hcell (by omega)
      refine Or.inr ⟨b, off, rfl, World.block_lt_of_cell? w ⟨b, off + 0, none⟩ (hc 0 (by omega)), fun i v hv => ?_⟩
      simp only [encInts, List.getElem?_map, List.getElem?_take] at hv
      split at hv
      · rename_i hin
        rw [hc i (by omega)]
        rw [List.getD_eq_getElem?_getD]
        cases hzi : zs[i]? with
        | none => simp [hzi] at hv
        | some y => simp [hzi] at hv ⊢; exact hv
      · simp at hv

/-- A slice of structs, out of the opening of one. -/
theorem open_rowsL {α : Type} (cells : α → List Value) (q : Nat) (hq : ∀ x, (cells x).length = q) (h0 : 0 < q) (W : α → Prop) (T : TypeId) (hT : Tryz.prog.cellsOf T = q) [Inhabited α]
    (hopen : ∀ (fuel : Nat) (cs : List Value) (x : DataW H × List MemPlace), DataW.trod enc Tryz.prog w base spare held fuel T cs = some x → ∃ e : α, cs = cells e ∧ W e)
    {t : TypeId} (ht : Tryz.prog.underlying t = some (.slice T)) {fuel : Nat} {a : Option Addr} {n cap : Nat} {x : DataW H × List MemPlace} (h : DataW.trod enc Tryz.prog w base spare held fuel t [.slice a n cap] = some x) :
    ∃ l : List α, l.length = n ∧ RowAt w a (l.flatMap cells) ∧ n ≤ cap ∧ cap ≤ maxLen ∧ (∀ e ∈ l, W e) ∧ ((x.1 = .nil ∧ n = 0) ∨ ∃ elems sp, x.1 = .slice elems sp ∧ elems.length = n) := by
  rcases Go.Deep.open_slice ht h with ⟨hcs, hx⟩ | ⟨a', len', cap', m, f, D, Pl, hcs, _, hl, hm, hmm, hx, hcell⟩
  · simp only [List.cons.injEq, Value.slice.injEq, and_true] at hcs
    obtain ⟨rfl, rfl, rfl⟩ := hcs
    exact ⟨[], rfl, Or.inl rfl, Nat.le_refl _, by simp [maxLen], by simp, Or.inl ⟨by rw [hx], rfl⟩⟩
  · simp only [List.cons.injEq, Value.slice.injEq, and_true] at hcs
    obtain ⟨rfl, rfl, rfl⟩ := hcs
    have hnm : n ≤ m := by rw [hmm]; split <;> omega
    rw [hT] at hcell
    have hex : ∀ i, i < n → ∃ e : α, W e ∧ ∀ j, j < q → w.cell? ((a'.add (i * q)).add j) = (cells e)[j]? := fun i hi => by
      obtain ⟨cs', hc, ht'⟩ := hcell i (by omega)
      obtain ⟨e, rfl, hw⟩ := hopen _ _ _ ht'
      exact ⟨e, hw, fun j hj => (World.cells?_some hc).2.2 j hj⟩
    obtain ⟨E, hE⟩ := Go.Deep.choose_lt hex
    have hlen : ((List.range n).map E).length = n := by simp
    refine ⟨(List.range n).map E, hlen, ?_, hl, hm, fun e he => ?_, Or.inr ⟨_, _, by rw [hx], by simp⟩⟩
    · by_cases hn0 : n = 0
      · subst hn0; exact Or.inl rfl
      · have hc0 := (hE 0 (by omega)).2 0 h0
        rw [List.getElem?_eq_getElem (by rw [hq]; exact h0)] at hc0
        obtain ⟨b, off, spot⟩ := a'
        have hspot : spot = none := by simpa [Addr.add] using World.cell?_spot hc0
        subst hspot
        refine Or.inr ⟨b, off, rfl, by have := World.block_lt_of_cell? w _ hc0; simpa [Addr.add] using this, fun i v hv => ?_⟩
        have hi : i < n * q := by
          have := (List.getElem?_eq_some_iff.1 hv).1
          rw [flat_length cells q hq, hlen] at this; exact this
        have hd : i / q < n := Nat.div_lt_of_lt_mul (by rw [Nat.mul_comm]; exact hi)
        have hiq : i / q < ((List.range n).map E).length := by rw [hlen]; exact hd
        have hmq : i % q < q := Nat.mod_lt _ h0
        have hdm : i / q * q + i % q = i := by rw [Nat.mul_comm]; exact Nat.div_add_mod i q
        have hg := flat_get cells q hq ((List.range n).map E) (i / q) hiq (i % q) hmq
        rw [hdm, hv] at hg
        have hcc := (hE (i / q) hd).2 (i % q) hmq
        rw [Go.Deep.add_add, hdm, Go.WideShapes.add_plain] at hcc
        rw [hcc, hg]
        simp
    · obtain ⟨i, hi, rfl⟩ := List.mem_map.1 he
      exact (hE i (by simpa using hi)).1

theorem len3 {α : Type} : ∀ (l : List α), l.length = 3 → ∃ a b c, l = [a, b, c]
  | [a, b, c], _ => ⟨a, b, c, rfl⟩
theorem len2 {α : Type} : ∀ (l : List α), l.length = 2 → ∃ a b, l = [a, b]
  | [a, b], _ => ⟨a, b, rfl⟩
theorem cellsString : Tryz.prog.cellsOf 9 = 1 := by kernel_rfl

theorem cellsEntry : Tryz.prog.cellsOf 91 = 4 := by kernel_rfl
theorem cellsBool : Tryz.prog.cellsOf 4 = 1 := by kernel_rfl
/-- The four cells of an entry. -/
theorem open_ent {fuel : Nat} {cs : List Value} {x : DataW H × List MemPlace} (h : DataW.trod enc Tryz.prog w base spare held fuel 91 cs = some x) :
    ∃ e : Ent, cs = e.cells ∧ (Lit.int .i64 e.slot).wf = true ∧ (Lit.int .i64 e.frm).wf = true ∧ (Lit.int .i64 e.value).wf = true := by
  obtain ⟨xs, n, _, _, hl, hxs, hf⟩ := DataW.trod_struct Tryz.underlying91 h
  have hl : cs.length = 4 := hl.trans cellsEntry
  have hx4 : xs.length = 4 := by rw [hxs]; rfl
  obtain ⟨c0, c1, c2, c3, rfl⟩ := len4 cs hl
  obtain ⟨y0, y1, y2, y3, rfl⟩ := len4 xs hx4
  have h0 : DataW.trod enc Tryz.prog w base spare held n 3 (([c0, c1, c2, c3].drop 0).take (Tryz.prog.cellsOf 3)) = some y0 := hf 0 _ rfl
  rw [cells3] at h0
  have h1 : DataW.trod enc Tryz.prog w base spare held n 3 (([c0, c1, c2, c3].drop 1).take (Tryz.prog.cellsOf 3)) = some y1 := hf 1 _ rfl
  rw [cells3] at h1
  have h2 : DataW.trod enc Tryz.prog w base spare held n 4 (([c0, c1, c2, c3].drop 2).take (Tryz.prog.cellsOf 4)) = some y2 := hf 2 _ rfl
  rw [cellsBool] at h2
  have h3 : DataW.trod enc Tryz.prog w base spare held n 3 (([c0, c1, c2, c3].drop 3).take (Tryz.prog.cellsOf 3)) = some y3 := hf 3 _ rfl
  rw [cells3] at h3
  obtain ⟨s, e0, _, w0⟩ := DataW.trod_int Tryz.underlying3 h0
  obtain ⟨f, e1, _, w1⟩ := DataW.trod_int Tryz.underlying3 h1
  obtain ⟨b, e2, _⟩ := DataW.trod_bool Tryz.underlying4 h2
  obtain ⟨v, e3, _, w3⟩ := DataW.trod_int Tryz.underlying3 h3
  simp only [List.drop_zero, List.drop_succ_cons, List.take_succ_cons, List.take_zero, List.cons.injEq, and_true] at e0 e1 e2 e3
  subst e0 e1 e2 e3
  exact ⟨⟨s, f, b, v⟩, rfl, w0, w1, w3⟩
/-- A history. -/
theorem open_entsL {t : TypeId} (ht : Tryz.prog.underlying t = some (.slice 91)) {fuel : Nat} {a : Option Addr} {n cap : Nat} {x : DataW H × List MemPlace} (h : DataW.trod enc Tryz.prog w base spare held fuel t [.slice a n cap] = some x) :
    ∃ l : List Ent, l.length = n ∧ RowAt w a (encEnts l) ∧ n ≤ cap ∧ cap ≤ maxLen ∧ (∀ e ∈ l, (Lit.int .i64 e.slot).wf = true ∧ (Lit.int .i64 e.frm).wf = true ∧ (Lit.int .i64 e.value).wf = true) ∧ ((x.1 = .nil ∧ n = 0) ∨ ∃ elems sp, x.1 = .slice elems sp ∧ elems.length = n) := by
  rcases Go.Deep.open_slice ht h with ⟨hcs, hx⟩ | ⟨a', len', cap', m, f, D, Pl, hcs, _, hl, hm, hmm, hx, hcell⟩
  · simp only [List.cons.injEq, Value.slice.injEq, and_true] at hcs
    obtain ⟨rfl, rfl, rfl⟩ := hcs
    exact ⟨[], rfl, Or.inl rfl, Nat.le_refl _, by simp [maxLen], by simp, Or.inl ⟨by rw [hx], rfl⟩⟩
  · simp only [List.cons.injEq, Value.slice.injEq, and_true] at hcs
    obtain ⟨rfl, rfl, rfl⟩ := hcs
    have hnm : n ≤ m := by rw [hmm]; split <;> omega
    rw [cellsEntry] at hcell
    have hex : ∀ i, i < n → ∃ e : Ent, ((Lit.int .i64 e.slot).wf = true ∧ (Lit.int .i64 e.frm).wf = true ∧ (Lit.int .i64 e.value).wf = true) ∧ ∀ j, j < 4 → w.cell? ((a'.add (i * 4)).add j) = e.cells[j]? := fun i hi => by
      obtain ⟨cs', hc, ht'⟩ := hcell i (by omega)
      obtain ⟨e, rfl, hw⟩ := open_ent ht'
      exact ⟨e, hw, (World.cells?_some hc).2.2⟩
    obtain ⟨E, hE⟩ := Go.Deep.choose_lt hex
    have hlen : ((List.range n).map E).length = n := by simp
    refine ⟨(List.range n).map E, hlen, ?_, hl, hm, fun e he => ?_, Or.inr ⟨_, _, by rw [hx], by simp⟩⟩
    · by_cases h0 : n = 0
      · subst h0; exact Or.inl rfl
      · have hc0 := (hE 0 (by omega)).2 0 (by omega)
        rw [show (E 0).cells[0]? = some (.int .i64 (E 0).slot) from rfl] at hc0
        obtain ⟨b, off, spot⟩ := a'
        have hspot : spot = none := by simpa [Addr.add] using World.cell?_spot hc0
        subst hspot
        refine Or.inr ⟨b, off, rfl, by have := World.block_lt_of_cell? w _ hc0; simpa [Addr.add] using this, fun i v hv => ?_⟩
        have hi : i < n * 4 := by
          have := (List.getElem?_eq_some_iff.1 hv).1
          rw [encEnts_length, hlen] at this; exact this
        have hq : i / 4 < ((List.range n).map E).length := by rw [hlen]; omega
        have hg := encEnts_get ((List.range n).map E) (i / 4) hq (i % 4) (by omega)
        rw [show i / 4 * 4 + i % 4 = i by omega, hv] at hg
        have hcc := (hE (i / 4) (by omega)).2 (i % 4) (by omega)
        rw [Go.Deep.add_add, show i / 4 * 4 + i % 4 = i by omega, Go.WideShapes.add_plain] at hcc
        rw [hcc, hg]
        simp
    · obtain ⟨i, hi, rfl⟩ := List.mem_map.1 he
      exact (hE i (by simpa using hi)).1
end
end Go.Proofs.YtoekajpjfoolpaaGreatDoor
