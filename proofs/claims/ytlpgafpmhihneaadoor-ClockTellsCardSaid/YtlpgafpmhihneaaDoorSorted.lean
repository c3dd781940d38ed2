/- slices.AppendSeq, Collect, Sorted over slices.Values of numbers. -/
import Derived.RangeFuncFrom
import Derived.Maps.AppendAt
import Derived.Test.YtlpgafpmhihneaaDoorIterVals
import Derived.Test.YtlpgafpmhihneaaDoorAppend
import Derived.Test.YtlpgafpmhihneaaDoorShelf
import Derived.Sort.OwnSortedInts
namespace Go.Proofs.YtlpgafpmhihneaaDoor
open Go.RowKit Go.Shelf

attribute [local go_sem] Oper.semAt_some

theorem info_int : (Tryd.prog.info? 3).map (fun i => (i.zero, i.size, i.bytes)) = some (some (.int .i64 0), 1, 8) := by kernel_rfl

set_option maxRecDepth 100000 in
set_option maxHeartbeats 2000000 in
theorem appendSeq_in (F : Fence) (n : Nat) (h5 : F.fn 90) (h6 : F.fn 71) (hro : F.round = none) (hn : 3 ≤ n) (Bs : Nat) (sv : Value) (zs : List Int) (w : World) (hz : zs.length ≤ 1000) (hBs : Bs < w.heap.size)
    (hc : w.cell? ⟨Bs, 0, none⟩ = some sv) (hI : vl_Ints w.heap.size w sv zs) :
    CallsIn F n Tryd.prog 90 #[.slice none 0 0, .func (.func 71) #[] #[.pointer (some ⟨Bs, 0, none⟩)]] w fun e W' => ∃ v, e = .returned v ∧ W'.ownsRow w.heap.size 3 1 v zs.length (encInts zs) ∧ Below w.heap.size w W' := by
  have h1 : 1 ≤ n := by omega
  obtain ⟨i0, hi, hz0, hz1, hz2⟩ := info_parts info_int
  refine callsIn_of_wp_marks Tryd.func90 rfl h5 ?_ hro
  simp only [Tryd.ntmps90, List.size_toArray, List.length_cons, List.length_nil, Nat.reduceAdd, Nat.reduceSub, Array.replicate_succ, Array.replicate_zero, List.push_toArray, List.append_toArray, List.nil_append, List.cons_append]
  gi_wp2
  have hB0 : Below w.heap.size w (w.alloc (.cells #[.slice none 0 0] 22)) := (Below.refl _ w).alloc (Nat.le_refl _) _
  have hb := (hB0.cell (p := ⟨Bs, 0, none⟩) hBs).trans hc
  refine wpIn_rangeFunc_ownF hro h1 (gf := 71) (lb := #[.pointer (some ⟨Bs, 0, none⟩)]) rfl h6 (enters_of Tryd.func71 (by kernel_rfl) rfl)
    (vl_values_stops F (n - 1) h6 hro (by omega) Bs w.heap.size sv zs (by omega) _ (by simp; omega) (by simp) hb (hI.below hB0)) belowK_t (belowK_b (by simp)) (Below.refl _ _) (fun _ => rfl)
    (fun pre W => (∃ v, Boxed W w.heap.size 22 v ∧ W.ownsRow w.heap.size 3 1 v pre.length (pre.map (Value.int .i64)) ∧ (v = .slice none 0 0 ↔ pre = [])) ∧ Below w.heap.size w W)
    (fun _ _ _ => False)
    (OwnFrom.and (Own.from (holdsRow_own w.heap.size w.heap.size 22 3 1 (fun pre => pre.length) (fun pre => pre.map (Value.int .i64)) (fun pre v => v = .slice none 0 0 ↔ pre = [])) _) (ownFrom_below (Nat.le_refl _) (by simp)))
    (fun _ _ _ _ _ hs _ _ => hs)
    ⟨⟨_, Boxed.new _ _ _, World.ownsRow_nil _ _ _ _, by simp⟩, hB0⟩
    (fun x => { tmps := #[.slice none 0 0, .func (.func 71) #[] #[.pointer (some ⟨Bs, 0, none⟩)], .pointer (some ⟨w.heap.size, 0, none⟩), undef, .slice none 0 0, .int .i64 x, .func (.func 71) #[] #[.pointer (some ⟨Bs, 0, none⟩)], .int .i64 x, undef, undef, undef, undef, undef], defers := [] }) ?assign ?body ?done ?stop
  case assign =>
    intro l x W K hK
    gi_wp2
    exact hK
  case body =>
    rintro l pre x W ⟨⟨v, hv, hrow, hnil⟩, hB⟩ hlen
    have hc := hv.cell
    gi_wp2_with (gi_at_builtin; refine wpListIn_append_own _ rfl _ _ 22 rfl w.heap.size 3 i0 (.int .i64 0) 1 8 Tryd.underlying22 hi hz0 hz1 hz2 rfl (by decide) _ _ _ rfl (hrow.alloc _) ⟨W.heap.size, 0, none⟩ 1 1 [.int .i64 x] rfl rfl (cell_one_new _ _ _) (by simp [Value.oneCell']) (by unfold maxLen; omega) (by omega) (by have := hB.size; simp; omega) ?_; intro v' w1 hown' hgrow _; obtain ⟨g', cap', rfl⟩ := ownsRow_succ hown'; obtain ⟨hv1, hv2, hr2, hk2, hb2⟩ := hv.appended (by decide) hrow hB.size (Nat.le_refl _) hown' hgrow; have hc1 := hv1.cell; have hf1 := hv1.frozen)
    exact ⟨hk2, hb2, ⟨_, hv2, by simpa using hr2, by simp⟩, hB.trans hb2⟩
  case done =>
    rintro D ys W hD rfl ⟨⟨v, hv, hrow, _⟩, hB⟩ hK
    have hc := hv.cell
    gi_wp2
    refine ⟨by simp, .inl ⟨_, _, rfl, run_takeDeferred hK, ?_⟩⟩
    exact ⟨_, results_tmp rfl _ _ _, ⟨_, rfl, ownsRow_putObj hrow _ hK rfl, hB.trans (belowK_b (w := w) (Nat.le_refl _) W D _ _ (by simp at hD; omega) hK rfl rfl)⟩⟩
  case stop =>
    rintro D c pre W _ _ h _
    exact h.elim

theorem collect_any (Bs : Nat) (sv : Value) (zs : List Int) (w : World) (hz : zs.length ≤ 1000) (hBs : Bs < w.heap.size) (hc : w.cell? ⟨Bs, 0, none⟩ = some sv) (hI : vl_Ints w.heap.size w sv zs) :
    Calls Tryd.prog 69 #[.func (.func 71) #[] #[.pointer (some ⟨Bs, 0, none⟩)]] w fun e W' => ∃ v, e = .returned v ∧ W'.ownsRow w.heap.size 3 1 v zs.length (encInts zs) ∧ Below w.heap.size w W' := by
  have C := Lib.hid (callsIn_wide.1 (appendSeq_in Fence.wide 3 trivial trivial rfl (by omega) Bs sv zs w hz hBs hc hI))
  clear hc hI
  go_enter Tryd.func69, Tryd.ntmps69
  go_wp2_with (go_at_call 90; refine C.out.mono ?_; rintro e w1 ⟨v, rfl, ho, hb⟩)
  go_ret
  exact ⟨_, rfl, ho, hb⟩

def sortL (zs : List Int) : List Int := zs.mergeSort fun x y => decide (x ≤ y)
theorem sortL_length (zs : List Int) : (sortL zs).length = zs.length := by simp [sortL]

theorem sorted_any (Bs : Nat) (sv : Value) (zs : List Int) (w : World) (hz : zs.length ≤ 1000) (hBs : Bs < w.heap.size) (hc : w.cell? ⟨Bs, 0, none⟩ = some sv) (hI : vl_Ints w.heap.size w sv zs) :
    Calls Tryd.prog 39 #[.func (.func 71) #[] #[.pointer (some ⟨Bs, 0, none⟩)]] w fun e W' => ∃ v, e = .returned v ∧ W'.ownsRow w.heap.size 3 1 v zs.length (encInts (sortL zs)) ∧ Below w.heap.size w W' := by
  have C := Lib.hid (collect_any Bs sv zs w hz hBs hc hI)
  clear hc hI
  go_enter Tryd.func39, Tryd.ntmps39
  go_wp2_with fail
  refine C.out.mono ?_
  rintro e w1 ⟨v, rfl, ho, hb⟩
  rcases ho.2 with ⟨rfl, hnil⟩ | ⟨g, cap, cur, rfl, hbase, hg, hn, hcap, hcs, htake⟩
  · have hzn : zs = [] := by simpa [encInts] using hnil
    subst hzn
    clear C
    go_wp2_with (go_at_call 70; refine (Tryd.slices_Sort_int_none none 0 _).mono ?_; rintro e w2 ⟨rfl, rfl⟩)
    go_ret
    have e0 : sortL [] = [] := by simp [sortL]
    rw [e0]
    exact ⟨_, rfl, World.ownsRow_nil _ _ _ _, hb⟩
  · have hlt : g < w1.heap.size := (Array.getElem?_eq_some_iff.1 hg).1
    have HS := Lib.hid (Tryd.slices_Sort_int g 0 cap zs w1 (holds_of_blockI hg (by simpa [encInts] using htake)) hlt (by omega))
    have HO := Lib.hid (fun (n : Nat) (os : Array Obj) => ownsRow_sortedI (n := n) (os := os) (base := w.heap.size) (ts := sortL zs) (sortL_length zs) hbase hg hn hcap hcs)
    have HB : Hid (∀ (n : Nat) (os : Array Obj), Below w.heap.size w (Sort.grow (Sort.putRow (Value.int .i64) (Sort.ahead w1 n) g 0 (sortL zs).toArray) os)) := fun n os => hb.grown (grownBy_sortedI _) hb.size (fun j e => by injection e with e; omega)
    clear ho hg htake hcs
    go_wp2_with fail
    refine HS.out.mono ?_
    rintro e w2 ⟨rfl, n, os, rfl⟩
    go_wp2
    go_ret
    exact ⟨_, rfl, HO.out n os, HB.out n os⟩
end Go.Proofs.YtlpgafpmhihneaaDoor
