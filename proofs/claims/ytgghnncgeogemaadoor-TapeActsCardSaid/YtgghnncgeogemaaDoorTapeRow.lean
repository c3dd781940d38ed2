/- rows of bytes: made of a text, grown by a text, cut. -/
import Derived.Test.YtgghnncgeogemaaDoorProg
import Derived.Test.YtgghnncgeogemaaDoorLib
import Derived.Lib.AppendStr
import Derived.Lib.ConvBytes
import Derived.Lib.BufferRead
import Derived.Lib.AtoiErrMem
import Derived.Laws.IdiomStrings
namespace Go.Proofs.YtgghnncgeogemaaDoor
open Go.RowKit Go.Lib

theorem info_u8 : (Tryd.prog.info? 5).map (fun i => (i.zero, i.size, i.bytes)) = some (some (.int .u8 0), 1, 1) := by kernel_rfl

/-- No cell of a row is frozen. -/
def FreeRow (fz : Nat × Nat) (size : Nat) : Prop := ∀ j, j < size → ¬ (fz.1 ≤ j ∧ j < fz.2)
/-- A slice that lies at or behind 'base' holds these bytes; what it has room for is free. -/
def DRow (w : World) (base : Nat) (v : Value) (bs : List UInt8) : Prop :=
  (v = .slice none 0 0 ∧ bs = []) ∨ ∃ g cap cur fz, v = .slice (some ⟨g, 0, none⟩) bs.length cap ∧ base ≤ g ∧ w.heap[g]? = some (.cells cur 5 fz) ∧ bs.length ≤ cap ∧ cap ≤ maxLen ∧ cap ≤ cur.size ∧ cur.toList.take bs.length = strCells ⟨bs.toArray⟩ ∧ FreeRow fz cur.size

/-- What a step leaves: all below 'base', and all that is neither bytes nor a disk. -/
structure Step (base : Nat) (w w' : World) : Prop where
  below : Below base w w'
  kept : ∀ (k : Nat) (c : Array Value) (t : TypeId) (fz : Nat × Nat), w.heap[k]? = some (Obj.cells c t fz) → t ≠ 5 → t ≠ 51 → w'.heap[k]? = some (Obj.cells c t fz)
theorem Step.refl (base : Nat) (w : World) : Step base w w := ⟨Below.refl _ _, fun _ _ _ _ h _ _ => h⟩
theorem Step.trans {base : Nat} {a b c : World} (h : Step base a b) (k : Step base b c) : Step base a c := ⟨h.below.trans k.below, fun i c t fz hi h1 h2 => k.kept i c t fz (h.kept i c t fz hi h1 h2) h1 h2⟩
theorem Step.of {base : Nat} {w w' : World} (h : Below w.heap.size w w') (hb : base ≤ w.heap.size) : Step base w w' :=
  ⟨h.mono hb, fun k _ _ _ hk _ _ => (h.block k (Array.getElem?_eq_some_iff.1 hk).1).trans hk⟩
theorem Step.size {base : Nat} {w w' : World} (h : Step base w w') : w.heap.size ≤ w'.heap.size := h.below.size

theorem DRow.kept {w w' : World} {base : Nat} {v : Value} {bs : List UInt8} (h : DRow w base v bs) (hk : ∀ g, v.ownBlock = some g → w'.heap[g]? = w.heap[g]?) : DRow w' base v bs := by
  rcases h with h | ⟨g, cap, cur, fz, rfl, h1, h2, h3⟩
  · exact Or.inl h
  · exact Or.inr ⟨g, cap, cur, fz, rfl, h1, (hk g rfl).trans h2, h3⟩
theorem DRow.lt {w : World} {base : Nat} {v : Value} {bs : List UInt8} (h : DRow w base v bs) : ∀ g, v.ownBlock = some g → g < w.heap.size := by
  intro g hg
  rcases h with ⟨rfl, _⟩ | ⟨g', cap, cur, fz, rfl, h1, h2, _⟩
  · simp [Value.ownBlock] at hg
  · simp [Value.ownBlock] at hg; subst hg; exact (Array.getElem?_eq_some_iff.1 h2).1
theorem DRow.below {w w' : World} {base : Nat} {v : Value} {bs : List UInt8} (h : DRow w base v bs) (hb : Below w.heap.size w w') : DRow w' base v bs := h.kept fun g hg => hb.block g (h.lt g hg)
theorem DRow.shape {w : World} {base : Nat} {v : Value} {bs : List UInt8} (h : DRow w base v bs) : ∃ a cap, v = .slice a bs.length cap := by
  rcases h with ⟨rfl, rfl⟩ | ⟨g, cap, cur, fz, rfl, _⟩
  · exact ⟨none, 0, rfl⟩
  · exact ⟨_, cap, rfl⟩
/-- The row lies in bytes. -/
theorem DRow.bytes {w : World} {base : Nat} {v : Value} {bs : List UInt8} (h : DRow w base v bs) : ∀ g, v.ownBlock = some g → base ≤ g ∧ ∃ cur fz, w.heap[g]? = some (.cells cur 5 fz) := by
  intro g hg
  rcases h with ⟨rfl, _⟩ | ⟨g', cap, cur, fz, rfl, h1, h2, _⟩
  · simp [Value.ownBlock] at hg
  · simp [Value.ownBlock] at hg; subst hg; exact ⟨h1, cur, fz, h2⟩

/-- The bytes of a text. -/
theorem run_conv_text (w : World) (bs : List UInt8) (h : bs.length ≤ 262144) :
    ∃ cap, (convert 9 49 (.string ⟨bs.toArray⟩)).run Tryd.prog w = .ok (.slice (some ⟨w.heap.size, 0, none⟩) bs.length cap) (bytesWorld w 5 ⟨bs.toArray⟩) ∧
      DRow (bytesWorld w 5 ⟨bs.toArray⟩) w.heap.size (.slice (some ⟨w.heap.size, 0, none⟩) bs.length cap) bs ∧ Below w.heap.size w (bytesWorld w 5 ⟨bs.toArray⟩) := by
  have hsz : (⟨bs.toArray⟩ : ByteArray).size = bs.length := rfl
  have h0 := grownCap_ge w bs.length 0 5
  have h1 : grownCap w bs.length 0 5 ≤ maxLen := grownCap_le_maxLen w bs.length 0 5 (by unfold maxLen; omega)
  refine ⟨grownCap w bs.length 0 5, Lib.run_convert_string_bytes w 9 49 5 ⟨bs.toArray⟩ Tryd.underlying9 Tryd.underlying49 Tryd.underlying5, Or.inr ⟨w.heap.size, _, _, _, rfl, Nat.le_refl _, bytesWorld_at_new w 5 ⟨bs.toArray⟩, h0, h1, ?_, ?_, ?_⟩, bytesWorld_below _ _ _⟩
  · simp [bytesCells, hsz] <;> omega
  · simp only [bytesCells, Array.toList_append]
    rw [List.take_append_of_le_length (by simp)]
    rw [List.take_of_length_le (by simp)]
    simp [strCells]
  · intro j hj ⟨h2, h3⟩; simp only at h2; omega

theorem run_storeCells_free (P : Program) (g o : Nat) (t : TypeId) (fz : Nat × Nat) (size : Nat) (hfz : FreeRow fz size) : ∀ (vs : List Value) (i : Nat) (cur : Array Value) (w : World), cur.size = size → w.heap[g]? = some (.cells cur t fz) → o + i + vs.length ≤ cur.size → (∀ v ∈ vs, v.oneCell' = true) →
    (storeCells ⟨g, o, none⟩ vs i).run P w = .ok () (w.setRow g (cur.toList.take (o + i) ++ vs ++ cur.toList.drop (o + i + vs.length)).toArray)
  | [], i, cur, w, _, hg, _, _ => by
    simp only [storeCells, List.append_nil, List.length_nil, Nat.add_zero, List.take_append_drop, Array.toArray_toList]
    rw [setRow_self w g cur t fz hg]
    rfl
  | v :: rest, i, cur, w, hsz, hg, hl, h1 => by
    have hi : o + i < cur.size := by simp at hl; omega
    have hadd : (⟨g, o, none⟩ : Addr).add i = ⟨g, o + i, none⟩ := by unfold Addr.add; split <;> simp_all
    have hcell : w.cell? ⟨g, o + i, none⟩ = some cur[o + i] := by simp [World.cell?, hg, hi]
    have hfro : w.frozen? ⟨g, o + i, none⟩ = false := by
      have := hfz (o + i) (by omega)
      simp only [World.frozen?, hg]
      simp only [Bool.and_eq_false_iff, decide_eq_false_iff_not]
      omega
    have hst : (store ((⟨g, o, none⟩ : Addr).add i) v).run P w = .ok () (w.setRow g (cur.setIfInBounds (o + i) v)) := by
      rw [hadd, run_store P w _ v _ (h1 v (by simp)), hcell]
      simp [hfro, setCell_eq_setRow w g (o + i) cur t fz v hg]
    have ih := run_storeCells_free P g o t fz size hfz rest (i + 1) (cur.setIfInBounds (o + i) v) (w.setRow g (cur.setIfInBounds (o + i) v)) (by simpa using hsz) (setRow_heap w g cur _ t _ hg) (by simp at hl ⊢; omega) (fun x hx => h1 x (by simp [hx]))
    simp only [storeCells, Sem.run_bind, hst, Result.andThen_ok, ih, setRow_setRow]
    congr 3
    have e := list_seg_step cur.toList (o + i) v rest (by simp at hl ⊢; omega)
    simpa [Array.toList_setIfInBounds, Nat.add_assoc] using e

/-- A text's bytes appended. -/
theorem run_append_text (w : World) (base : Nat) (ty : TypeId) (v : Value) (bs s : List UInt8) (hv : DRow w base v bs) (hl : bs.length + s.length ≤ 1000000) (hbase : base ≤ w.heap.size) :
    ∃ v' w', (Builtin.append_ #[49, 9] ty #[v, .string ⟨s.toArray⟩]).run Tryd.prog w = .ok v' w' ∧ DRow w' base v' (bs ++ s) ∧ w.grownBy w' v.ownBlock ∧ (v'.ownBlock = v.ownBlock ∨ ∀ g, v'.ownBlock = some g → w.heap.size ≤ g) := by
  obtain ⟨i, hi, hz0, hz1, hz2⟩ := info_parts info_u8
  have hsz : (⟨s.toArray⟩ : ByteArray).size = s.length := rfl
  have hcat : strCells ⟨(bs ++ s).toArray⟩ = strCells ⟨bs.toArray⟩ ++ strCells ⟨s.toArray⟩ := by simp [strCells]
  have hlb : (strCells ⟨bs.toArray⟩).length = bs.length := by simp [strCells]
  have hls : (strCells ⟨s.toArray⟩).length = s.length := by simp [strCells]
  have ofRow : ∀ {W : World} {u : Value} {k : Nat} {xs : List Value}, W.ownsRow w.heap.size 5 1 u k xs → k = (bs ++ s).length → xs = strCells ⟨(bs ++ s).toArray⟩ → DRow W base u (bs ++ s) := by
    intro W u k xs h hk hx
    rcases h.2 with ⟨rfl, h0⟩ | ⟨g, cap, cur, rfl, h1, h2, h3, h4, h5, h6⟩
    · refine Or.inl ⟨rfl, List.eq_nil_of_length_eq_zero (by omega)⟩
    · subst hk
      refine Or.inr ⟨g, cap, cur, (0, 0), rfl, by omega, h2, h3, h4, by omega, ?_, fun j _ hh => by simp at hh⟩
      rw [← hx, ← h6, Nat.mul_one]
  rcases hv with ⟨rfl, rfl⟩ | ⟨g, cap, cur, fz, rfl, h1, h2, h3, h4, h5, h6, h7⟩
  · obtain ⟨v', w', r1, r2, r3, r4⟩ := run_append_own_string (P := Tryd.prog) w w.heap.size 49 9 ty 5 i Tryd.underlying49 Tryd.underlying9 hi hz0 hz1 hz2 (.slice none 0 0) 0 [] (World.ownsRow_nil _ _ _ _) ⟨s.toArray⟩ (by rw [hsz]; unfold maxLen; omega) (by rw [hsz]; omega) (Nat.le_refl _)
    refine ⟨v', w', r1, ofRow r2 (by rw [hsz]; simp) (by simp), r3, ?_⟩
    right
    intro g hg
    rcases r2.2 with ⟨rfl, _⟩ | ⟨g', cap, cur, rfl, q1, q2, _⟩
    · simp [Value.ownBlock] at hg
    · simp [Value.ownBlock] at hg; omega
  · by_cases hroom : bs.length + s.length ≤ cap
    · have hf := run_firstCells_string (P := Tryd.prog) w 1 ⟨s.toArray⟩
      have hst := run_storeCells_free Tryd.prog g bs.length 5 fz cur.size h7 (strCells ⟨s.toArray⟩) 0 cur w rfl h2 (by rw [hls]; omega) (strCells_oneCell _)
      simp only [Nat.add_zero, hls] at hst
      refine ⟨_, w.setRow g (cur.toList.take bs.length ++ strCells ⟨s.toArray⟩ ++ cur.toList.drop (bs.length + s.length)).toArray, ?_, Or.inr ⟨g, cap, _, fz, rfl, h1, setRow_heap w g cur _ _ _ h2, by simpa using hroom, h4, ?_, ?_, ?_⟩, ⟨rfl, rfl, rfl, by simp, fun k _ hk => setRow_other w g k _ (fun e => hk (by simp [Value.ownBlock, e]))⟩, Or.inl rfl⟩
      · rw [hsz] at hf
        simp [Builtin.append_, run_underlying Tryd.underlying49, run_underlying Tryd.underlying9, sizeOf, typeInfo, hi, hz1, Builtin.lenOf, hsz, hroom, hf, Addr.add_lit, hst]
      · simp only [List.size_toArray, List.length_append, List.length_take, List.length_drop, Array.length_toList, hls]; omega
      · rw [hcat, h6]
        rw [show (bs ++ s).length = (strCells ⟨bs.toArray⟩ ++ strCells ⟨s.toArray⟩).length by simp [strCells]]
        exact List.take_left
      · intro j hj
        simp only [List.size_toArray, List.length_append, List.length_take, List.length_drop, Array.length_toList, hls] at hj
        exact h7 j (by omega)
    · have holds : ∀ j u, (strCells ⟨bs.toArray⟩)[j]? = some u → w.cell? ((⟨g, 0, none⟩ : Addr).add j) = some u := by
        intro j u hj
        have hj' : j < bs.length := by have := (List.getElem?_eq_some_iff.1 hj).1; omega
        rw [← h6, List.getElem?_take_of_lt hj'] at hj
        simp only [Addr.add_lit, Nat.zero_add, World.cell?, h2]
        simpa using hj
      have hr := run_append_grow_string (P := Tryd.prog) w 49 9 ty 5 i (.int .u8 0) Tryd.underlying49 Tryd.underlying9 hi hz0 ⟨g, 0, none⟩ bs.length cap (strCells ⟨bs.toArray⟩) (by rw [hz1, hlb, Nat.mul_one]) holds ⟨s.toArray⟩ (by rw [hsz]; omega) (by rw [hsz]; omega) (by rw [hz2, hsz]; exact growslice_fits (by omega) (by omega))
      have hge := grownCap_ge w (bs.length + s.length) cap 5
      have hcm := grownCap_le_maxLen w (bs.length + s.length) cap 5 (by unfold maxLen; omega)
      rw [hsz] at hr
      refine ⟨_, _, hr, Or.inr ⟨w.heap.size, _, _, (0, 0), by rw [List.length_append], hbase, heap_alloc_new w.drew _, by rw [List.length_append]; exact hge, hcm, ?_, ?_, fun j _ hh => by simp at hh⟩, ⟨rfl, rfl, rfl, by simp, fun k hk _ => by first | exact heap_alloc_old w.drew _ hk | exact heap_alloc_old w.drew _ k hk⟩, Or.inr (fun g hg => by simp [Value.ownBlock] at hg; omega)⟩
      · have hz1 : (Value.int IntKind.u8 0).cells.size = 1 := rfl
        simp only [Array.size_append, List.size_toArray, size_zeroCells, hz1, hlb, hls]
        omega
      · simp only [Array.toList_append, List.append_assoc]
        rw [← List.append_assoc, hcat]
        rw [show (bs ++ s).length = (strCells ⟨bs.toArray⟩ ++ strCells ⟨s.toArray⟩).length by simp [strCells]]
        exact List.take_left

/-- The text of the bytes. -/
theorem run_text_back (w : World) (base : Nat) (v : Value) (bs : List UInt8) (hv : DRow w base v bs) :
    (convert 49 9 v).run Tryd.prog w = .ok (.string ⟨bs.toArray⟩) w := by
  rcases hv with ⟨rfl, rfl⟩ | ⟨g, cap, cur, fz, rfl, h1, h2, h3, h4, h5, h6, h7⟩
  · exact run_convert_nil_bytes w 49 9 5 0 Tryd.underlying49 Tryd.underlying5 Tryd.underlying9
  · refine run_convert_bytes_back w 49 9 5 ⟨g, 0, none⟩ cap bs Tryd.underlying49 Tryd.underlying5 Tryd.underlying9 fun j hj => ?_
    have e1 : (strCells ⟨bs.toArray⟩)[j]? = some (.int .u8 (bs[j].toNat : Int)) := by simp [strCells, hj]
    rw [← h6, List.getElem?_take_of_lt hj] at e1
    simp only [Addr.add_lit, Nat.zero_add, World.cell?, h2]
    simpa using e1
/-- The row, cut. -/
theorem DRow.cut {w : World} {base g cap : Nat} {bs : List UInt8} (h : DRow w base (.slice (some ⟨g, 0, none⟩) bs.length cap) bs) {n : Nat} (hn : n ≤ bs.length) : DRow w base (.slice (some ⟨g, 0, none⟩) n n) (bs.take n) := by
  rcases h with ⟨h, _⟩ | ⟨g', cap', cur, fz, e, h1, h2, h3, h4, h5, h6, h7⟩
  · cases h
  · simp only [Value.slice.injEq, Option.some.injEq, Addr.mk.injEq, and_true, true_and] at e
    obtain ⟨rfl, rfl⟩ := e
    have hl : (bs.take n).length = n := by simp; omega
    refine Or.inr ⟨g, n, cur, fz, by rw [hl], h1, h2, by rw [hl]; exact Nat.le_refl _, by omega, by omega, ?_, h7⟩
    rw [hl]
    have e2 := congrArg (List.take n) h6
    rw [List.take_take, Nat.min_eq_left hn] at e2
    rw [e2]
    simp [strCells]
theorem DRow.cut2 {w : World} {base cv n : Nat} {av : Option Addr} {bs : List UInt8} (h : DRow w base (.slice av bs.length cv) bs) (hn : n ≤ bs.length) : DRow w base (.slice av n n) (bs.take n) ∧ bs.length ≤ cv := by
  have h' := h
  rcases h with ⟨e, rfl⟩ | ⟨g', cap', cur, fz, e, h1, h2, h3, _⟩
  · simp only [Value.slice.injEq] at e
    obtain ⟨rfl, _, rfl⟩ := e
    obtain rfl : n = 0 := by simpa using hn
    exact ⟨Or.inl ⟨rfl, rfl⟩, Nat.zero_le _⟩
  · simp only [Value.slice.injEq, true_and] at e
    obtain ⟨rfl, rfl⟩ := e
    exact ⟨h'.cut hn, h3⟩
end Go.Proofs.YtgghnncgeogemaaDoor
