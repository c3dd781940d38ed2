/- fold.heard: the last values, as an array. -/
import Derived.Test.YtbfocagicagehaaDoorFoldPlain
import Derived.Laws.Rows
import Derived.RangeFuncBox
import Derived.Lib.SmallJoins
import Derived.BigQuiet
import Derived.Deep.QuietTactic
namespace Go.Proofs.YtbfocagicagehaaDoor
open Go.RowKit

/-- A block of numbers. -/
def Arr (W : World) (b : Nat) (t : TypeId) (l : List Int) : Prop := W.heap[b]? = some (.cells (encInts l).toArray t (0, 0))
theorem Arr.lt {W : World} {b : Nat} {t : TypeId} {l : List Int} (h : Arr W b t l) : b < W.heap.size := (Array.getElem?_eq_some_iff.1 h).1
theorem Arr.cell {W : World} {b : Nat} {t : TypeId} {l : List Int} (h : Arr W b t l) (i : Nat) (hi : i < l.length) : W.cell? ⟨b, i, none⟩ = some (.int .i64 l[i]) := by
  simp [World.cell?, show W.heap[b]? = _ from h, encInts, hi]
theorem Arr.frozen {W : World} {b : Nat} {t : TypeId} {l : List Int} (h : Arr W b t l) (i : Nat) : W.frozen? ⟨b, i, none⟩ = false := by simp [World.frozen?, show W.heap[b]? = _ from h]
theorem Arr.kept {W W' : World} {b : Nat} {t : TypeId} {l : List Int} (h : Arr W b t l) (hb : Below W.heap.size W W') : Arr W' b t l := (hb.block b h.lt).trans h

theorem Arr.set {W : World} {b : Nat} {t : TypeId} {l : List Int} (h : Arr W b t l) (i : Nat) (v : Int) : Arr (W.setCell ⟨b, i, none⟩ (.int .i64 v)) b t (l.set i v) := by
  have h' : W.heap[b]? = _ := h
  have hlt := h.lt
  unfold Arr World.setCell
  simp [Array.getElem?_modify, h', encInts]
theorem Arr.other {W : World} {b : Nat} {t : TypeId} {l : List Int} (h : Arr W b t l) {c : Nat} (hc : b ≠ c) (i : Nat) (v : Value) : Arr (W.setCell ⟨c, i, none⟩ v) b t l := by
  unfold Arr
  rw [Below.heap_setCell _ _ _ _ (by simpa using hc)]
  exact h
theorem Arr.size {l : List Int} : (encInts l).toArray.size = l.length := by simp [encInts]

theorem last_info : (Tryd.prog.info? 65).map (·.size) = some 16 := by kernel_rfl
theorem len16 {α : Type} : ∀ (l : List α), l.length = 16 → ∃ a0 a1 a2 a3 a4 a5 a6 a7 a8 a9 a10 a11 a12 a13 a14 a15, l = [a0, a1, a2, a3, a4, a5, a6, a7, a8, a9, a10, a11, a12, a13, a14, a15]
  | [a0, a1, a2, a3, a4, a5, a6, a7, a8, a9, a10, a11, a12, a13, a14, a15], _ => ⟨a0, a1, a2, a3, a4, a5, a6, a7, a8, a9, a10, a11, a12, a13, a14, a15, rfl⟩
set_option maxRecDepth 100000 in
set_option maxHeartbeats 1600000 in
theorem heard_any (a : Option Addr) (n cap : Nat) (es : List Ent) (w : World) (hn : es.length = n) (hr : RowAt w a (encEnts es)) (hm : n ≤ 4611686018427387904) (hf : ∀ k (hk : k < es.length), 1 ≤ es[k].frm ∧ es[k].frm ≤ 16) :
    Calls Tryd.prog 26 #[.slice a n cap] w fun e w' => e = .returned (.agg (encInts (lastF es)).toArray) ∧ Below w.heap.size w w' := by
  have h1 : Arr ((w.alloc (.cells #[.int .i64 0, .int .i64 0, .int .i64 0, .int .i64 0, .int .i64 0, .int .i64 0, .int .i64 0, .int .i64 0, .int .i64 0, .int .i64 0, .int .i64 0, .int .i64 0, .int .i64 0, .int .i64 0, .int .i64 0, .int .i64 0] 65)).alloc (.cells #[.int .i64 0, .int .i64 0, .int .i64 0, .int .i64 0, .int .i64 0, .int .i64 0, .int .i64 0, .int .i64 0, .int .i64 0, .int .i64 0, .int .i64 0, .int .i64 0, .int .i64 0, .int .i64 0, .int .i64 0, .int .i64 0] 65)) (w.heap.size + 1) 65 (List.replicate 16 0) := by
    have := World.alloc_heap_new (w.alloc (.cells #[.int .i64 0, .int .i64 0, .int .i64 0, .int .i64 0, .int .i64 0, .int .i64 0, .int .i64 0, .int .i64 0, .int .i64 0, .int .i64 0, .int .i64 0, .int .i64 0, .int .i64 0, .int .i64 0, .int .i64 0, .int .i64 0] 65)) (.cells #[.int .i64 0, .int .i64 0, .int .i64 0, .int .i64 0, .int .i64 0, .int .i64 0, .int .i64 0, .int .i64 0, .int .i64 0, .int .i64 0, .int .i64 0, .int .i64 0, .int .i64 0, .int .i64 0, .int .i64 0, .int .i64 0] 65)
    rw [World.size_alloc] at this
    exact this
  have h0 : Arr ((w.alloc (.cells #[.int .i64 0, .int .i64 0, .int .i64 0, .int .i64 0, .int .i64 0, .int .i64 0, .int .i64 0, .int .i64 0, .int .i64 0, .int .i64 0, .int .i64 0, .int .i64 0, .int .i64 0, .int .i64 0, .int .i64 0, .int .i64 0] 65)).alloc (.cells #[.int .i64 0, .int .i64 0, .int .i64 0, .int .i64 0, .int .i64 0, .int .i64 0, .int .i64 0, .int .i64 0, .int .i64 0, .int .i64 0, .int .i64 0, .int .i64 0, .int .i64 0, .int .i64 0, .int .i64 0, .int .i64 0] 65)) w.heap.size 65 (List.replicate 16 0) :=
    Arr.kept (World.alloc_heap_new w _) ((Below.refl _ _).alloc (Nat.le_refl _) _)
  have hb0 := Joins.below_alloc2 w (.cells #[.int .i64 0, .int .i64 0, .int .i64 0, .int .i64 0, .int .i64 0, .int .i64 0, .int .i64 0, .int .i64 0, .int .i64 0, .int .i64 0, .int .i64 0, .int .i64 0, .int .i64 0, .int .i64 0, .int .i64 0, .int .i64 0] 65) (.cells #[.int .i64 0, .int .i64 0, .int .i64 0, .int .i64 0, .int .i64 0, .int .i64 0, .int .i64 0, .int .i64 0, .int .i64 0, .int .i64 0, .int .i64 0, .int .i64 0, .int .i64 0, .int .i64 0, .int .i64 0, .int .i64 0] 65)
  have HN := Lib.hid hn
  clear hn
  go_enter Tryd.func26, Tryd.ntmps26
  go_wp2
  generalize (w.alloc (.cells #[.int .i64 0, .int .i64 0, .int .i64 0, .int .i64 0, .int .i64 0, .int .i64 0, .int .i64 0, .int .i64 0, .int .i64 0, .int .i64 0, .int .i64 0, .int .i64 0, .int .i64 0, .int .i64 0, .int .i64 0, .int .i64 0] 65)).alloc (.cells #[.int .i64 0, .int .i64 0, .int .i64 0, .int .i64 0, .int .i64 0, .int .i64 0, .int .i64 0, .int .i64 0, .int .i64 0, .int .i64 0, .int .i64 0, .int .i64 0, .int .i64 0, .int .i64 0, .int .i64 0, .int .i64 0] 65) = W0 at *
  go_loopw [8] (fun i wr => ∃ k : Nat, k ≤ n ∧ i = .int .i64 k ∧ Arr wr w.heap.size 65 (List.replicate 16 0) ∧ Arr wr (w.heap.size + 1) 65 (lastF (es.take k)) ∧ Below w.heap.size w wr) (fun i _ => n - (intOf i).toNat)
  case atStart => exact ⟨0, Nat.zero_le _, rfl, h0, h1, hb0⟩
  case round =>
    clear h0 h1 hb0
    obtain ⟨k, hk, rfl, hA, hB, hb⟩ := hrel
    by_cases hlt : k < n
    · have hk1 : k < es.length := by have := HN.out; omega
      obtain ⟨b, off, rfl, hbl, c0, c1, c2, c3⟩ := (hr.below hb).ent k hk1
      have hS := Lib.hid (lastF_snoc es k hk1)
      have hfk := hf k hk1
      have hi0 : (0 : Int) ≤ (k : Int) := by omega
      have hi1 : (k : Int) < (n : Int) := by omega
      have hlen := lastF_length (es.take k)
      generalize es[k] = e at *
      generalize lastF (es.take k) = L at *
      cases hh : e.heard
      · have HS : Hid (lastF (es.take (k + 1)) = L) := by unfold Hid; rw [hS.out, lastStep, if_neg (by simp [hh])]
        rw [hh] at c2
        clear hS hh
        go_wp2
        have hbe := Below.alloc (Below.refl wr.heap.size wr) (Nat.le_refl _) (.cells #[.int .i64 e.slot, .int .i64 e.frm, .bool false, .int .i64 e.value] 38)
        go_roundw
        case rel => exact ⟨k + 1, by omega, by go_num, hA.kept hbe, by rw [HS.out]; exact hB.kept hbe, hb.alloc hb.size _⟩
        case measure => simp [intOf]; omega
      · have HS : Hid (lastF (es.take (k + 1)) = L.set (e.frm.toNat - 1) e.value) := by unfold Hid; rw [hS.out, lastStep, if_pos hh, show (e.frm - 1).toNat = e.frm.toNat - 1 by omega]
        rw [hh] at c2
        have hbe := Below.alloc (Below.refl wr.heap.size wr) (Nat.le_refl _) (.cells #[.int .i64 e.slot, .int .i64 e.frm, .bool true, .int .i64 e.value] 38)
        have hcl := (hB.kept hbe).cell (e.frm.toNat - 1) (by omega)
        have hfz := (hB.kept hbe).frozen (e.frm.toNat - 1)
        generalize L[e.frm.toNat - 1] = old at *
        clear hS hh
        go_wp2
        go_roundw
        case rel => exact ⟨k + 1, by omega, by go_num, (hA.kept hbe).other (by omega) _ _, by rw [HS.out]; exact (hB.kept hbe).set _ _, (hb.alloc hb.size _).setCell (by simp) _⟩
        case measure => simp [intOf]; omega
    · have HL : Hid (lastF (es.take k) = lastF es) := by unfold Hid; rw [List.take_of_length_le (by have := HN.out; omega)]
      have hL16 := lastF_length (es.take k)
      obtain ⟨L, hL⟩ : ∃ L, L = lastF es := ⟨_, rfl⟩
      rw [HL.out, ← hL] at hB hL16
      clear HL
      obtain ⟨a0, a1, a2, a3, a4, a5, a6, a7, a8, a9, a10, a11, a12, a13, a14, a15, rfl⟩ := len16 L hL16
      have HLQ := Lib.hid hL
      clear hL
      have c0 := hB.cell 0 (by simp)
      have c1 := hB.cell 1 (by simp)
      have c2 := hB.cell 2 (by simp)
      have c3 := hB.cell 3 (by simp)
      have c4 := hB.cell 4 (by simp)
      have c5 := hB.cell 5 (by simp)
      have c6 := hB.cell 6 (by simp)
      have c7 := hB.cell 7 (by simp)
      have c8 := hB.cell 8 (by simp)
      have c9 := hB.cell 9 (by simp)
      have c10 := hB.cell 10 (by simp)
      have c11 := hB.cell 11 (by simp)
      have c12 := hB.cell 12 (by simp)
      have c13 := hB.cell 13 (by simp)
      have c14 := hB.cell 14 (by simp)
      have c15 := hB.cell 15 (by simp)
      have d0 := hA.cell 0 (by simp)
      have f0 := hA.frozen 0
      have d1 := hA.cell 1 (by simp)
      have f1 := hA.frozen 1
      have d2 := hA.cell 2 (by simp)
      have f2 := hA.frozen 2
      have d3 := hA.cell 3 (by simp)
      have f3 := hA.frozen 3
      have d4 := hA.cell 4 (by simp)
      have f4 := hA.frozen 4
      have d5 := hA.cell 5 (by simp)
      have f5 := hA.frozen 5
      have d6 := hA.cell 6 (by simp)
      have f6 := hA.frozen 6
      have d7 := hA.cell 7 (by simp)
      have f7 := hA.frozen 7
      have d8 := hA.cell 8 (by simp)
      have f8 := hA.frozen 8
      have d9 := hA.cell 9 (by simp)
      have f9 := hA.frozen 9
      have d10 := hA.cell 10 (by simp)
      have f10 := hA.frozen 10
      have d11 := hA.cell 11 (by simp)
      have f11 := hA.frozen 11
      have d12 := hA.cell 12 (by simp)
      have f12 := hA.frozen 12
      have d13 := hA.cell 13 (by simp)
      have f13 := hA.frozen 13
      have d14 := hA.cell 14 (by simp)
      have f14 := hA.frozen 14
      have d15 := hA.cell 15 (by simp)
      have f15 := hA.frozen 15
      simp only [List.getElem_cons_zero, List.getElem_cons_succ, List.getElem_replicate] at c0 d0 c1 d1 c2 d2 c3 d3 c4 d4 c5 d5 c6 d6 c7 d7 c8 d8 c9 d9 c10 d10 c11 d11 c12 d12 c13 d13 c14 d14 c15 d15
      go_wp2
      have hF : Arr _ w.heap.size 65 [a0, a1, a2, a3, a4, a5, a6, a7, a8, a9, a10, a11, a12, a13, a14, a15] := (((((((((((((((hA.set 0 a0).set 1 a1).set 2 a2).set 3 a3).set 4 a4).set 5 a5).set 6 a6).set 7 a7).set 8 a8).set 9 a9).set 10 a10).set 11 a11).set 12 a12).set 13 a13).set 14 a14).set 15 a15
      refine bodyPost_ret (v := .agg (encInts [a0, a1, a2, a3, a4, a5, a6, a7, a8, a9, a10, a11, a12, a13, a14, a15]).toArray) (results_cell_row Tryd.results26 _ _ w.heap.size 65 _ (0, 0) _ rfl hF Tryd.underlying65 rfl last_info) rfl ?_
      refine ⟨by rw [HLQ.out], ?_⟩
      repeat (refine Below.setCell ?_ (by simp) _)
      exact hb
end Go.Proofs.YtbfocagicagehaaDoor
