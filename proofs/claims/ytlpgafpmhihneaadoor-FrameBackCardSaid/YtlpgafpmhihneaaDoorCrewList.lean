/- crew.List. -/
import Derived.Test.YtlpgafpmhihneaaDoorCrewIter
namespace Go.Proofs.YtlpgafpmhihneaaDoor
open Go.RowKit Go.Shelf

attribute [local go_sem] Oper.semAt_some

theorem cl_info_int : (Tryd.prog.info? 3).map (fun i => (i.zero, i.size, i.bytes)) = some (some (.int .i64 0), 1, 8) := by kernel_rfl

/-- A row of one's own: its base lowered. -/
theorem ownsRow_lower {W : World} {base base' : Nat} {e : TypeId} {size : Nat} {v : Value} {k : Nat} {xs : List Value} (h : W.ownsRow base e size v k xs) (hb : base' ≤ base) : W.ownsRow base' e size v k xs :=
  ⟨h.1, h.2.imp id (fun ⟨g, cap, cur, e1, e2, e3⟩ => ⟨g, cap, cur, e1, Nat.le_trans hb e2, e3⟩)⟩
theorem ownBlock_ge {W : World} {base : Nat} {e : TypeId} {size : Nat} {v : Value} {k : Nat} {xs : List Value} (h : W.ownsRow base e size v k xs) {b : Nat} (hb : b < base) : some b ≠ v.ownBlock := fun e' => by
  have := (h.lt b e'.symm).1; omega

set_option maxRecDepth 100000 in
set_option maxHeartbeats 2000000 in
theorem list_in (ea : Nat → Addr) (c : Int) (w : World) (hg : Glob w ea [2]) :
    CallsIn Fence.wide 3 Tryd.prog 24 #[.int .i64 c] w fun e W' => ∃ v, e = .returned v ∧ W'.ownsRow w.heap.size 3 1 v (listTo c 16).length (encInts (listTo c 16)) ∧ Below w.heap.size w W' := by
  have HG := Lib.hid (fun (W : World) (h : Below w.heap.size w W) => hg.below h)
  clear hg
  obtain ⟨i0, hi, hz0, hz1, hz2⟩ := info_parts cl_info_int
  refine callsIn_of_wp_marks Tryd.func24 rfl trivial ?_ rfl
  simp only [Tryd.ntmps24, List.size_toArray, List.length_cons, List.length_nil, Nat.reduceAdd, Nat.reduceSub, Array.replicate_succ, Array.replicate_zero, List.push_toArray, List.append_toArray, List.nil_append, List.cons_append]
  gi_wp2_with (refine ⟨trivial, ?_⟩; gi_at_call 52; refine (callsIn_wide.2 (nodes_any _ _)).mono ?_; rintro e w' ⟨rfl, rfl⟩)
  have hB0 : Below w.heap.size w ((w.alloc (.cells #[.slice none 0 0] 22)).alloc (.cells #[.int .i64 c] 3)) := ((Below.refl _ w).alloc (Nat.le_refl _) _).alloc (by simp) _
  have hb : ((w.alloc (.cells #[.slice none 0 0] 22)).alloc (.cells #[.int .i64 c] 3)).cell? ⟨w.heap.size + 1, 0, none⟩ = some (.int .i64 c) := by
    have := (Boxed.new (w.alloc (.cells #[.slice none 0 0] 22)) 3 (.int .i64 c)).cell
    rw [World.size_alloc] at this; exact this
  have hbx0 : Boxed ((w.alloc (.cells #[.slice none 0 0] 22)).alloc (.cells #[.int .i64 c] 3)) w.heap.size 22 (.slice none 0 0) := (Boxed.new w _ _).alloc _
  have hbx1 : Boxed ((w.alloc (.cells #[.slice none 0 0] 22)).alloc (.cells #[.int .i64 c] 3)) (w.heap.size + 1) 3 (.int .i64 c) := by
    have := Boxed.new (w.alloc (.cells #[.slice none 0 0] 22)) 3 (.int .i64 c)
    rw [World.size_alloc] at this; exact this
  have hsz : ((w.alloc (.cells #[.slice none 0 0] 22)).alloc (.cells #[.int .i64 c] 3)).heap.size = w.heap.size + 2 := by simp
  have HGW := Lib.hid (fun (W' : World) (h : Below w.heap.size ((w.alloc (.cells #[.slice none 0 0] 22)).alloc (.cells #[.int .i64 c] 3)) W') => HG.out W' (hB0.trans h))
  refine wpIn_rangeFunc_ownF rfl (by omega) (gf := 74) (lb := #[.pointer (some ⟨w.heap.size + 1, 0, none⟩)]) rfl trivial (enters_of Tryd.func74 (by kernel_rfl) rfl)
    (nodes_stops ea 2 (by omega) (w.heap.size + 1) w.heap.size c _ (by simp) (by simp; omega) hb HGW.out) keepC_t (keepC_b (by simp; omega) (by simp)) (Below.refl _ _) (fun _ => rfl)
    (fun pre W => (∃ v, Boxed W w.heap.size 22 v ∧ W.ownsRow (w.heap.size + 2) 3 1 v pre.length (pre.map (Value.int .i64)) ∧ (v = .slice none 0 0 ↔ pre = [])) ∧ Boxed W (w.heap.size + 1) 3 (.int .i64 c) ∧ Below w.heap.size w W ∧ w.heap.size + 2 ≤ W.heap.size)
    (fun _ _ _ => False)
    (OwnFrom.and (Own.from (holdsRow_own (w.heap.size + 2) w.heap.size 22 3 1 (fun pre => pre.length) (fun pre => pre.map (Value.int .i64)) (fun pre v => v = .slice none 0 0 ↔ pre = [])) _) (OwnFrom.and (Own.from (boxed_own _ _ _) _) (OwnFrom.and (ownFrom_below (by first | omega | (simp; done) | (simp; omega)) (by first | omega | (simp; done) | (simp; omega))) (fun _ _ _ _ hs hg _ => Nat.le_trans hs hg.size))))
    (fun _ _ _ _ _ hs _ _ => hs)
    ⟨⟨_, hbx0, World.ownsRow_nil _ _ _ _, by simp⟩, hbx1, hB0, by simp⟩
    (fun x => { tmps := #[.int .i64 c, undef, .slice none 0 0, .pointer (some ⟨w.heap.size, 0, none⟩), .int .i64 x, .int .i64 c, .func (.func 74) #[] #[.pointer (some ⟨w.heap.size + 1, 0, none⟩)], .int .i64 x, undef, undef, undef, undef, undef], defers := [] }) ?assign ?body ?done ?stop
  case assign =>
    intro l x W K hK
    gi_wp2
    exact hK
  case body =>
    rintro l pre x W ⟨⟨v, hv, hrow, hnil⟩, hcb, hB, hsz2⟩ hlen
    have hc := hv.cell
    have hrow' := ownsRow_lower hrow (base' := w.heap.size) (by omega)
    gi_wp2_with (gi_at_builtin; refine wpListIn_append_own _ rfl _ _ 22 rfl (w.heap.size + 2) 3 i0 (.int .i64 0) 1 8 Tryd.underlying22 hi hz0 hz1 hz2 rfl (by decide) _ _ _ rfl (hrow.alloc _) ⟨W.heap.size, 0, none⟩ 1 1 [.int .i64 x] rfl rfl (cell_one_new _ _ _) (by simp [Value.oneCell']) (by unfold maxLen; omega) (by omega) (by simp; omega) ?_; intro v' w1 hown' hgrow _; obtain ⟨g', cap', rfl⟩ := ownsRow_succ hown'; have hown2 := ownsRow_lower hown' (base' := w.heap.size) (by omega); obtain ⟨hv1, hv2, hr2, hk2, hb2⟩ := hv.appended (by decide) hrow' hB.size (Nat.le_refl _) hown2 hgrow; have hc1 := hv1.cell; have hf1 := hv1.frozen)
    have hcb2 := ((hcb.alloc (.cells #[.int .i64 x] 3)).kept hgrow (ownBlock_ge hrow (by omega))).kept (grownBy_setCell' w1 w.heap.size (.slice (some ⟨g', 0, none⟩) (pre.length + 1) cap')) (by simp)
    have hr3 := hown'.kept (grownBy_setCell' w1 w.heap.size (.slice (some ⟨g', 0, none⟩) (pre.length + 1) cap')) (.inr (hv1.not_row (by decide) hown').symm)
    exact ⟨hk2, ⟨hb2, hcb2.cell.trans hcb.cell.symm⟩, ⟨_, hv2, by simpa using hr3, by simp⟩, hcb2, hB.trans hb2, Nat.le_trans hsz2 hb2.size⟩
  case done =>
    rintro D ys W hD rfl ⟨⟨v, hv, hrow, _⟩, _, hB, _⟩ hK
    have hc := hv.cell
    gi_wp2
    refine ⟨by simp, .inl ⟨_, _, rfl, run_takeDeferred hK, ?_⟩⟩
    exact ⟨_, results_tmp rfl _ _ _, ⟨_, rfl, ownsRow_putObj (ownsRow_lower hrow (by omega)) _ hK rfl, hB.trans (belowK_b (w := w) (Nat.le_refl _) W D _ _ (by simp at hD; omega) hK rfl rfl)⟩⟩
  case stop =>
    rintro D c pre W _ _ h _
    exact h.elim

theorem list_any (ea : Nat → Addr) (c : Int) (w : World) (hg : Glob w ea [2]) :
    Calls Tryd.prog 24 #[.int .i64 c] w fun e W' => ∃ v, e = .returned v ∧ W'.ownsRow w.heap.size 3 1 v (listTo c 16).length (encInts (listTo c 16)) ∧ Below w.heap.size w W' :=
  callsIn_wide.1 (list_in ea c w hg)
end Go.Proofs.YtlpgafpmhihneaaDoor
