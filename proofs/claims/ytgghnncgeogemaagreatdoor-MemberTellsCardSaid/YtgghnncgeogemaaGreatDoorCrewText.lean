/- crew.Text. -/
import Derived.Test.YtgghnncgeogemaaGreatDoorCrewIter
import Derived.Test.YtgghnncgeogemaaGreatDoorCrewRead
import Derived.Test.YtgghnncgeogemaaGreatDoorCrew
namespace Go.Proofs.YtgghnncgeogemaaGreatDoor
open Go.RowKit Go.Shelf

attribute [local go_sem] Oper.semAt_some

/-- Texts in memory. -/
def encTexts (l : List (List UInt8)) : List Value := l.map fun x => Value.string ⟨x.toArray⟩
theorem ct_info_string : (Tryz.prog.info? 9).map (fun i => (i.zero, i.size, i.bytes)) = some (some (.string ByteArray.empty), 1, 16) := by kernel_rfl
/-- crew.Text. -/
def textF (c : Int) : List UInt8 := if crewB c then (if c = 0 then [45] else Lib.join ((listTo c 16).map Lib.itoa) [44]) else []

theorem if_wanted {c : Bool} {p q : Prop} (h : c = true) (hp : p) : if c = true then p else q := by rw [if_pos h]; exact hp
theorem wpIn_of_append {F : Fence} {n : Nat} {P : Program} {o : Oper} {a : Act} {w : World} {K : Act → World → Prop} {Q : Exit → Act → World → Prop} (s x : Operand) (t : TypeId)
    (ho : o.op = .call { callee := .builtin .append, args := #[s, x], argTypes := #[t, t] }) (v u : Value) {v' : Value} {w' : World} (hs : a.eval s = v) (hx : a.eval x = u) (hr : (Builtin.append_ #[t, t] o.type #[v, u]).run P w = .ok v' w')
    (h : K (a.put o.dst v') w') : Oper.wpIn F n P o a w K Q := by
  unfold Oper.wpIn
  refine ⟨by simp [Oper.about, ho, resolve, Target.leads, Sem.run_pure], ?_⟩
  rw [Oper.semAt_plain F _ _ (by rw [ho]; intro c hc'; cases hc')]
  simp [execOp, ho, resolve, invoke, builtin, hs, hx, hr, Result.andThen]
  exact h

/-- strings.Join of texts in memory. -/
theorem join_any (a : Option Addr) (n cap : Nat) (l : List (List UInt8)) (sep : List UInt8) (w : World) (hn : l.length = n) (hr : RowAt w a (encTexts l)) (hc : n ≤ cap) (hl : (Lib.join l sep).length ≤ 140737488355328) (hN : n ≤ 140737488355328) :
    Calls Tryz.prog 48 #[.slice a n cap, .string ⟨sep.toArray⟩] w fun e w' => e = .returned (.string ⟨(Lib.join l sep).toArray⟩) ∧ Below w.heap.size w w' := by
  by_cases h0 : n = 0
  · subst h0
    obtain rfl : l = [] := List.eq_nil_of_length_eq_zero hn
    refine (Tryz.strings_Join_none a cap ⟨sep.toArray⟩ w).mono ?_
    rintro e w' ⟨rfl, rfl⟩
    exact ⟨rfl, Below.refl _ _⟩
  · obtain ⟨b, off, rfl, hb, hcells⟩ := hr.at (fun e => h0 (by rw [← hn]; simpa [encTexts] using congrArg List.length e))
    have hm : (l.map fun x => (⟨x.toArray⟩ : ByteArray)).map (·.data.toList) = l := by
      rw [List.map_map]; exact (List.map_congr_left (fun x _ => by simp)).trans (List.map_id l)
    have hlen : (l.map fun x => (⟨x.toArray⟩ : ByteArray)).length = n := by simp [hn]
    have h := Tryz.strings_Join b off cap (l.map fun x => ⟨x.toArray⟩) ⟨sep.toArray⟩ w (fun j x hx => hcells j _ (by simp only [encTexts, List.getElem?_map, Option.map_eq_some_iff] at hx ⊢; obtain ⟨y, hy, rfl⟩ := hx; exact ⟨y, hy, rfl⟩)) hb (by omega) (by omega) (by rw [hm]; exact hl)
    rw [hm, hlen] at h
    exact h
theorem join_short : ∀ (l : List (List UInt8)), (∀ x ∈ l, x.length ≤ 21) → (Lib.join l [44]).length ≤ l.length * 22
  | [], _ => by simp [Lib.join, List.intercalate]
  | [x], h => by have := h x (by simp); simp [Lib.join, List.intercalate]; omega
  | x :: y :: r, h => by
    have ih := join_short (y :: r) (fun z hz => h z (List.mem_cons_of_mem _ hz))
    have hx := h x (by simp)
    simp only [Lib.join, List.intercalate, List.intersperse, List.flatten_cons, List.length_append, List.length_cons, List.length_nil] at ih ⊢
    omega

/-- The loop's boxes between two rounds. -/
def TextI (B : Nat) (w : World) (c : Int) (pre : List Int) (W : World) : Prop :=
  (∃ v, Boxed W B 69 v ∧ W.ownsRow (B + 2) 9 1 v pre.length (encTexts (pre.map Lib.itoa))) ∧ Boxed W (B + 1) 3 (.int .i64 c) ∧ Below B w W ∧ B + 2 ≤ W.heap.size
theorem textI_later {B : Nat} {w : World} {c : Int} {pre : List Int} {W W' : World} {row : Option Nat} (h : TextI B w c pre W) (hg : W.grownBy W' row) (hr : ∀ r, row = some r → B + 2 ≤ r ∧ ∃ o : Obj, W.heap[r]? = some o ∧ o.isCells = false) : TextI B w c pre W' := by
  obtain ⟨⟨v, h1, h2⟩, h3, h4, h5⟩ := h
  have hne : ∀ k, k < B + 2 → some k ≠ row := fun k hk e => by have := (hr k e.symm).1; omega
  exact ⟨⟨v, h1.kept hg (hne _ (by omega)), (holdsRow_own (β := Unit) (B + 2) B 69 9 1 (fun _ => pre.length) (fun _ => encTexts (pre.map Lib.itoa)) (fun _ u => u = v) () W W' row ⟨v, h1, h2, rfl⟩ hg (fun r e => (hr r e).2)).elim fun u hu => hu.2.2 ▸ hu.2.1⟩, h3.kept hg (hne _ (by omega)), h4.grown hg (by omega) (fun k e => by have := (hr k e).1; omega), Nat.le_trans h5 hg.size⟩

set_option maxRecDepth 100000 in
set_option maxHeartbeats 2000000 in
theorem text_in (ea : Nat → Addr) (c : Nat) (w : World) (hg : Glob w ea [2]) (hc : c < 65536) (hc0 : c ≠ 0) :
    CallsIn Fence.wide 3 Tryz.prog 15 #[.int .i64 c] w fun e W' => e = .returned (.string ⟨(textF c).toArray⟩) ∧ Below w.heap.size w W' := by
  have HG := Lib.hid (fun (W : World) (h : Below w.heap.size w W) => hg.below h)
  have KC := Lib.hid (crewCheck_any ea c w hg)
  have hcb : crewB (c : Int) = true := by simp only [crewB, decide_eq_true_eq]; omega
  have he : errV ea (crewE c) = .nilIface := by rw [crewE, hcb]; exact errV_zero ea
  rw [he] at KC
  have hz : ((c : Int) == 0) = false := by simp; omega
  have HF : Hid (textF c = Lib.join ((listTo c 16).map Lib.itoa) [44]) := by unfold Hid; rw [textF, if_pos hcb, if_neg (by omega)]
  have HNE : Hid (∀ x ∈ listTo c 16, 1 ≤ x ∧ x ≤ 16) := by
    have : ∀ k, k ≤ 16 → ∀ x ∈ listTo (c : Int) k, 1 ≤ x ∧ x ≤ 16 := by
      intro k
      induction k with
      | zero => intro _ x hx; cases hx
      | succ k ih =>
        intro hk x hx
        rw [listTo, List.mem_append] at hx
        rcases hx with hx | hx
        · exact ih (by omega) x hx
        · split at hx
          · simp at hx; omega
          · cases hx
    exact this 16 (Nat.le_refl _)
  clear hg he hcb
  obtain ⟨i0, hi, hz0, hz1, hz2⟩ := info_parts ct_info_string
  refine callsIn_of_wp_marks Tryz.func15 rfl trivial ?_ rfl
  simp only [Tryz.ntmps15, List.size_toArray, List.length_cons, List.length_nil, Nat.reduceAdd, Nat.reduceSub, Array.replicate_succ, Array.replicate_zero, List.push_toArray, List.append_toArray, List.nil_append, List.cons_append]
  gi_wp2_with (first
    | (refine ⟨trivial, ?_⟩; gi_at_call 10; refine (callsIn_wide.2 KC.out).mono ?_; rintro e w' ⟨rfl, rfl⟩)
    | (refine ⟨trivial, ?_⟩; gi_at_call 43; refine (callsIn_wide.2 (nodes_any _ _)).mono ?_; rintro e w' ⟨rfl, rfl⟩))
  obtain ⟨W0, hW0⟩ : ∃ W0, W0 = (w.alloc (.cells #[.slice none 0 0] 69)).alloc (.cells #[.int .i64 c] 3) := ⟨_, rfl⟩
  have hz0' : W0.heap.size = w.heap.size + 2 := by rw [hW0]; simp
  have hb0 : Below w.heap.size w W0 := by rw [hW0]; exact ((Below.refl _ w).alloc (Nat.le_refl _) _).alloc (by simp) _
  have hx0 : Boxed W0 w.heap.size 69 (.slice none 0 0) := by rw [hW0]; exact (Boxed.new w _ _).alloc _
  have hx1 : Boxed W0 (w.heap.size + 1) 3 (.int .i64 c) := by
    rw [hW0]; have := Boxed.new (w.alloc (.cells #[.slice none 0 0] 69)) 3 (.int .i64 c)
    rw [World.size_alloc] at this; exact this
  rw [← hW0]
  clear hW0
  have HGW := Lib.hid (fun (W' : World) (h : Below w.heap.size W0 W') => HG.out W' (hb0.trans h))
  generalize hB : w.heap.size = B at *
  refine wpIn_rangeFunc_box rfl (by omega) (gf := 68) (lb := #[.pointer (some ⟨B + 1, 0, none⟩)]) rfl trivial (enters_of Tryz.func68 (by kernel_rfl) rfl)
    (nodes_box ea 2 (by omega) (B + 1) B c W0 (by omega) (by omega) hx1.cell HGW.out) (fun b e => by cases e) keepC_t (keepC_b (by omega) (by omega)) (fun _ => rfl)
    (TextI B w c) (fun _ _ _ => False)
    (fun _ _ _ _ h hg hr => textI_later h hg (fun r e => by have := (hr r e).1; exact ⟨by omega, (hr r e).2⟩)) (fun _ _ _ _ _ h _ _ => h)
    (fun _ _ _ _ h hg hr => textI_later h hg (fun r e => by cases hr r e)) (fun _ _ _ _ _ h _ _ => h) ⟨⟨_, hx0, World.ownsRow_nil _ _ _ _⟩, hx1, hb0, by omega⟩
    (fun x a' _ => a' = { tmps := #[.int .i64 c, undef, .string ⟨#[]⟩, .pointer (some ⟨B, 0, none⟩), .int .i64 x, .bool false, .int .i64 c, .nilIface, .bool false, .bool false, .int .i64 c, .bool false, .int .i64 c, .func (.func 68) #[] #[.pointer (some ⟨B + 1, 0, none⟩)], .int .i64 x, undef, undef, undef, undef, undef, undef, undef], defers := [] })
    (fun _ _ _ _ _ _ hs _ _ => hs) ?assign ?body ?done ?stop
  case assign =>
    intro l pre x W K hi hK
    gi_wp2
    exact hK _ _ (KeepsFrom.refl _ _) ⟨Below.refl _ _, rfl⟩ hi rfl
  case body =>
    rintro l pre x a' W ⟨⟨v, hv, hrow⟩, hcb, hbw, hsz⟩ rfl hpre
    have hxb := HNE.out x (hpre.subset (by simp))
    have hxl : pre.length ≤ 16 := by have := hpre.length_le; have := listTo_length c 16; simp at *; omega
    obtain ⟨m, rfl⟩ : ∃ m : Nat, x = m := ⟨x.toNat, by omega⟩
    have hmx : Tryz.prog.follows .mixedOrders = true := by kernel_rfl
    have KI := Lib.hid (fun (W' : World) => Tryz.strconv_Itoa_small m (by omega) W')
    have hc := hv.cell
    have hf := hv.frozen
    clear hpre
    obtain ⟨v', w1, hrun, hown', hgrow, _, _⟩ := run_append_own2 (P := Tryz.prog) (W.drew.alloc (.cells #[.string ⟨(Lib.decDigits m).toArray⟩] 9)) (B + 2) 69 69 9 i0 (.string ByteArray.empty) 1 16 Tryz.underlying69 hi hz0 hz1 hz2 rfl (by decide) v pre.length (encTexts (pre.map Lib.itoa)) ((show W.drew.ownsRow (B + 2) 9 1 v pre.length (encTexts (pre.map Lib.itoa)) from hrow).alloc _) (some ⟨W.heap.size, 0, none⟩) 1 1 [.string ⟨(Lib.decDigits m).toArray⟩] rfl (RowAt.new_at W.drew [.string ⟨(Lib.decDigits m).toArray⟩] 9 _ rfl) (by simp [Value.oneCell']) (by unfold maxLen; omega) (by omega) (by simp; omega)
    obtain ⟨g', cap', rfl⟩ := ownsRow_succ hown'
    have hown2 := ownsRow_lower hown' (base' := B) (by omega)
    have hrow' : W.drew.ownsRow B 9 1 v pre.length (encTexts (pre.map Lib.itoa)) := ownsRow_lower hrow (by omega)
    obtain ⟨hv1, hv2, hr2, hk2, hb2⟩ := (show Boxed W.drew B 69 v from hv).appended (by decide) hrow' (by show B ≤ W.heap.size; omega) (Nat.le_refl _) hown2 hgrow
    have hca := (hv.alloc (.cells #[.string ⟨(Lib.decDigits m).toArray⟩] 9)).cell
    have hc1 := hv1.cell
    have hf1 := hv1.frozen
    have hcb2 := (((show Boxed W.drew (B + 1) 3 (.int .i64 c) from hcb).alloc (.cells #[.string ⟨(Lib.decDigits m).toArray⟩] 9)).kept hgrow (ownBlock_ge hrow (by omega))).kept (grownBy_setCell' w1 B (.slice (some ⟨g', 0, none⟩) (pre.length + 1) cap')) (by simp)
    have hr3 := hown'.kept (grownBy_setCell' w1 B (.slice (some ⟨g', 0, none⟩) (pre.length + 1) cap')) (.inr (hv1.not_row (by decide) hown').symm)
    have hit : encTexts ((pre ++ [(m : Int)]).map Lib.itoa) = encTexts (pre.map Lib.itoa) ++ [.string ⟨(Lib.decDigits m).toArray⟩] := by simp [encTexts, Lib.itoa_nonneg]
    have hfin := Lib.hid (show KeepsFrom W0.heap.size W (w1.setCell ⟨B, 0, none⟩ (.slice (some ⟨g', 0, none⟩) (pre.length + 1) cap')) ∧ KeepC B (B + 1) W (w1.setCell ⟨B, 0, none⟩ (.slice (some ⟨g', 0, none⟩) (pre.length + 1) cap')) ∧ TextI B w c (pre ++ [(m : Int)]) (w1.setCell ⟨B, 0, none⟩ (.slice (some ⟨g', 0, none⟩) (pre.length + 1) cap')) from
      ⟨((KeepsOthers.drew W).trans hk2).from _, ⟨((Below.refl B W).drew).trans hb2, hcb2.cell.trans hcb.cell.symm⟩, ⟨_, hv2, by rw [hit, List.length_append]; exact hr3⟩, hcb2, hbw.trans (((Below.refl B W).drew).trans hb2), Nat.le_trans hsz hb2.size⟩)
    clear hit hr3 hcb2 hown2 hr2 hown' hgrow hv2 hk2 hb2
    gi_wp2
    refine wpIn_region_any hmx ?_
    refine wpAnyIn_ready (rs := [0, 1]) (by kernel_rfl) (by simp) ?_
    refine AllReadyIn.cons rfl (fun K hK => ?_) ?_
    · go_simp; refine hK _ _ ?_
      refine wpAnyIn_ready (rs := [1]) (by kernel_rfl) (by simp) ?_
      refine AllReadyIn.cons rfl (fun K hK => ?_) AllReadyIn.nil
      go_simp; refine hK _ _ ?_
      refine wpAnyIn_ready (rs := [2]) (by kernel_rfl) (by simp) ?_
      refine AllReadyIn.cons rfl (fun K hK => ?_) AllReadyIn.nil
      go_simp; refine ⟨trivial, ?_⟩; refine (CallsIn.inRound l (callsIn_wide.2 (KI.out _))).mono ?_; rintro e w' ⟨rfl, rfl⟩; refine hK _ _ ?_
      refine wpAnyIn_ready (rs := [3]) (by kernel_rfl) (by simp) ?_
      refine AllReadyIn.cons rfl (fun K hK => ?_) AllReadyIn.nil
      go_simp; refine hK _ _ ?_
      refine wpAnyIn_ready (rs := [4]) (by kernel_rfl) (by simp) ?_
      refine AllReadyIn.cons rfl (fun K hK => ?_) AllReadyIn.nil
      refine if_wanted rfl (wpIn_of_append (.tmp 15) (.tmp 18) 69 rfl _ _ rfl rfl hrun ?_); refine hK _ _ ?_
      refine wpAnyIn_ready (rs := [5]) (by kernel_rfl) (by simp) ?_
      refine AllReadyIn.cons rfl (fun K hK => ?_) AllReadyIn.nil
      go_simp; refine hK _ _ ?_
      refine wpAnyIn_done (by kernel_rfl) ?_ _
      exact hfin.out
    refine AllReadyIn.cons rfl (fun K hK => ?_) AllReadyIn.nil
    go_simp; refine hK _ _ ?_
    refine wpAnyIn_ready (rs := [0, 2]) (by kernel_rfl) (by simp) ?_
    refine AllReadyIn.cons rfl (fun K hK => ?_) ?_
    · go_simp; refine hK _ _ ?_
      refine wpAnyIn_ready (rs := [2]) (by kernel_rfl) (by simp) ?_
      refine AllReadyIn.cons rfl (fun K hK => ?_) AllReadyIn.nil
      go_simp; refine ⟨trivial, ?_⟩; refine (CallsIn.inRound l (callsIn_wide.2 (KI.out _))).mono ?_; rintro e w' ⟨rfl, rfl⟩; refine hK _ _ ?_
      refine wpAnyIn_ready (rs := [3]) (by kernel_rfl) (by simp) ?_
      refine AllReadyIn.cons rfl (fun K hK => ?_) AllReadyIn.nil
      go_simp; refine hK _ _ ?_
      refine wpAnyIn_ready (rs := [4]) (by kernel_rfl) (by simp) ?_
      refine AllReadyIn.cons rfl (fun K hK => ?_) AllReadyIn.nil
      refine if_wanted rfl (wpIn_of_append (.tmp 15) (.tmp 18) 69 rfl _ _ rfl rfl hrun ?_); refine hK _ _ ?_
      refine wpAnyIn_ready (rs := [5]) (by kernel_rfl) (by simp) ?_
      refine AllReadyIn.cons rfl (fun K hK => ?_) AllReadyIn.nil
      go_simp; refine hK _ _ ?_
      refine wpAnyIn_done (by kernel_rfl) ?_ _
      exact hfin.out
    refine AllReadyIn.cons rfl (fun K hK => ?_) AllReadyIn.nil
    go_simp; refine ⟨trivial, ?_⟩; refine (CallsIn.inRound l (callsIn_wide.2 (KI.out _))).mono ?_; rintro e w' ⟨rfl, rfl⟩; refine hK _ _ ?_
    refine wpAnyIn_ready (rs := [0, 3]) (by kernel_rfl) (by simp) ?_
    refine AllReadyIn.cons rfl (fun K hK => ?_) ?_
    · go_simp; refine hK _ _ ?_
      refine wpAnyIn_ready (rs := [3]) (by kernel_rfl) (by simp) ?_
      refine AllReadyIn.cons rfl (fun K hK => ?_) AllReadyIn.nil
      go_simp; refine hK _ _ ?_
      refine wpAnyIn_ready (rs := [4]) (by kernel_rfl) (by simp) ?_
      refine AllReadyIn.cons rfl (fun K hK => ?_) AllReadyIn.nil
      refine if_wanted rfl (wpIn_of_append (.tmp 15) (.tmp 18) 69 rfl _ _ rfl rfl hrun ?_); refine hK _ _ ?_
      refine wpAnyIn_ready (rs := [5]) (by kernel_rfl) (by simp) ?_
      refine AllReadyIn.cons rfl (fun K hK => ?_) AllReadyIn.nil
      go_simp; refine hK _ _ ?_
      refine wpAnyIn_done (by kernel_rfl) ?_ _
      exact hfin.out
    refine AllReadyIn.cons rfl (fun K hK => ?_) AllReadyIn.nil
    go_simp; refine hK _ _ ?_
    refine wpAnyIn_ready (rs := [0]) (by kernel_rfl) (by simp) ?_
    refine AllReadyIn.cons rfl (fun K hK => ?_) AllReadyIn.nil
    go_simp; refine hK _ _ ?_
    refine wpAnyIn_ready (rs := [4]) (by kernel_rfl) (by simp) ?_
    refine AllReadyIn.cons rfl (fun K hK => ?_) AllReadyIn.nil
    refine if_wanted rfl (wpIn_of_append (.tmp 15) (.tmp 18) 69 rfl _ _ rfl rfl hrun ?_); refine hK _ _ ?_
    refine wpAnyIn_ready (rs := [5]) (by kernel_rfl) (by simp) ?_
    refine AllReadyIn.cons rfl (fun K hK => ?_) AllReadyIn.nil
    go_simp; refine hK _ _ ?_
    refine wpAnyIn_done (by kernel_rfl) ?_ _
    exact hfin.out
  case done =>
    rintro D ys W hD rfl ⟨⟨v, hv, hrow⟩, _, hbw, hsz⟩ hK
    have hc := hv.cell
    obtain ⟨ao, co, rfl⟩ := owned_shape hrow
    obtain ⟨ra, _, na, _⟩ := RowAt.owned hrow
    have hlen := listTo_length c 16
    have KJ := Lib.hid (join_any ao ((listTo c 16).length) co ((listTo c 16).map Lib.itoa) [44] W (by simp) ra na (by
      refine Nat.le_trans (join_short ((listTo c 16).map Lib.itoa) (fun x hx => ?_)) (by simp; omega)
      obtain ⟨y, hy, rfl⟩ := List.mem_map.1 hx
      have := HNE.out y hy
      exact Lib.itoa_length_le y (by omega) (by omega)) (by omega))
    gi_wp2_with (refine ⟨trivial, ?_⟩; gi_at_call 48; refine (callsIn_wide.2 KJ.out).mono ?_; rintro e w2 ⟨rfl, hb2⟩)
    have hK2 : w2.heap[D]? = some (.deferred (some [])) := (hb2.block D (Array.getElem?_eq_some_iff.1 hK).1).trans hK
    refine ⟨by simp, .inl ⟨_, _, rfl, run_takeDeferred hK2, ?_⟩⟩
    exact ⟨_, results_tmp rfl _ _ _, by rw [HF.out]; rfl, by rw [hB]; exact (hbw.trans (hb2.mono (by omega))).trans (belowK_b (n₀ := B) (w := w) (by omega) w2 D _ (.deferred none) (by omega) hK2 rfl rfl)⟩
  case stop =>
    rintro D c pre W _ _ h _
    exact h.elim
theorem text_any (ea : Nat → Addr) (c : Int) (w : World) (hg : Glob w ea [2]) :
    Calls Tryz.prog 15 #[.int .i64 c] w fun e W' => e = .returned (.string ⟨(textF c).toArray⟩) ∧ Below w.heap.size w W' := by
  cases hc : crewB c
  · have he : errV ea (crewE c) = .iface 187 (.pointer (some (ea 2))) := by rw [crewE, hc]; exact errV_pos ea (by decide)
    have KC := Lib.hid (crewCheck_any ea c w hg)
    rw [he] at KC
    have HR : Hid (textF c = []) := by unfold Hid; rw [textF, if_neg (by simp [hc])]
    clear he hc hg
    go_enter Tryz.func15, Tryz.ntmps15
    go_wp2_with (go_at_call 10; refine KC.out.mono ?_; rintro e w' ⟨rfl, rfl⟩)
    go_ret
    exact ⟨by rw [HR.out]; rfl, Below.refl _ _⟩
  · obtain ⟨k, rfl, hk⟩ := crew_nat hc
    by_cases h0 : k = 0
    · subst h0
      have he : errV ea (crewE ((0 : Nat) : Int)) = .nilIface := by rw [crewE, hc]; exact errV_zero ea
      have KC := Lib.hid (crewCheck_any ea ((0 : Nat) : Int) w hg)
      rw [he] at KC
      have HR : Hid (textF ((0 : Nat) : Int) = [45]) := by unfold Hid; rw [textF, if_pos hc, if_pos (by omega)]
      simp only [Int.cast_ofNat_Int] at KC HR ⊢
      clear he hc hg
      go_enter Tryz.func15, Tryz.ntmps15
      go_wp2_with (go_at_call 10; refine KC.out.mono ?_; rintro e w' ⟨rfl, rfl⟩)
      go_ret
      exact ⟨by rw [HR.out]; rfl, Below.refl _ _⟩
    · exact callsIn_wide.1 (text_in ea k w hg hk h0)
end Go.Proofs.YtgghnncgeogemaaGreatDoor
