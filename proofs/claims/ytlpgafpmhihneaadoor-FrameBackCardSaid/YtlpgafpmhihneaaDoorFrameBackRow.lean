/- FrameBack: for every input the law returns true, and its arguments read as they did; the row, and the card that ties its listed variables. No condition. -/
import Derived.Test.YtlpgafpmhihneaaDoorRows
import Derived.Test.YtlpgafpmhihneaaDoorCards
import Derived.Test.YtlpgafpmhihneaaDoorTie
import Derived.Test.YtlpgafpmhihneaaDoorOpen
import Derived.Test.YtlpgafpmhihneaaDoorLaid
import Derived.Test.YtlpgafpmhihneaaDoorFrameBack
import Derived.Test.YtlpgafpmhihneaaDoorOpenTxt
import Derived.Test.YtlpgafpmhihneaaDoorWrap
import Derived.SevenTiedAt
import Derived.Lay
namespace Go.Proofs.YtlpgafpmhihneaaDoor.lawFrameBack
open Go.ChangeShapes Go.WideShapes Go.ChangeAt Go.WideMaps Go.WideElems Go.RowKit

theorem own : ownKnob Tryd.prog.godebug = none := by kernel_rfl
theorem door_met (os : Os) (args : Array Value) : laidMetH Tryd.prog Rows.frameBackRow.laid ((World.laidAll Tryd.prog os Rows.frameBackRow.laid).forCall (fun _ _ => 0) ⟨#[], args, []⟩).memory := by
  rw [MakeChecks.laidMetH_plain _ _ _ (by kernel_rfl)]; exact laidMet_laidAll _ (by kernel_rfl) (by kernel_rfl)

/-- What the condition gives: the errors' variables. -/
theorem of_laid {W : World} (h : laidMetH Tryd.prog Rows.frameBackRow.laid W) : (∃ ea, Glob W ea [1, 2, 3, 4, 8]) ∧ (W.ShapedOpen Tryd.prog → TxtEnv W) := by
  rw [MakeChecks.laidMetH_plain _ _ _ (by kernel_rfl)] at h
  have h := h.tail
  have h := h.tail
  have hT := pow10_tab h
  have h := h.tail
  have h := h.tail
  obtain ⟨a0, l0, c0⟩ := sentinel_cell (g := 2) (by kernel_rfl) (by kernel_rfl) h
  have h := h.tail
  obtain ⟨a1, l1, c1⟩ := sentinel_cell (g := 0) (by kernel_rfl) (by kernel_rfl) h
  have h := h.tail
  obtain ⟨a2, l2, c2⟩ := sentinel_cell (g := 5) (by kernel_rfl) (by kernel_rfl) h
  have h := h.tail
  obtain ⟨a3, l3, c3⟩ := sentinel_cell (g := 1) (by kernel_rfl) (by kernel_rfl) h
  have h := h.tail
  obtain ⟨a4, l4, c4⟩ := sentinel_cell (g := 4) (by kernel_rfl) (by kernel_rfl) h
  have h := h.tail
  obtain ⟨ar, lr, cr⟩ := sentinel_cell (g := 14) (by kernel_rfl) (by kernel_rfl) h
  have h := h.tail
  obtain ⟨ay, ly, cy⟩ := sentinel_cell (g := 13) (by kernel_rfl) (by kernel_rfl) h
  refine ⟨?_, fun hsh => txtEnv_of hT ⟨_, _, ly, cy⟩ ⟨_, _, lr, cr⟩ hsh⟩
  refine ⟨fun k => if k = 1 then a0 else if k = 2 then a1 else if k = 3 then a2 else if k = 4 then a3 else if k = 8 then a4 else a0, fun k hk => ?_⟩
  simp only [List.mem_cons, List.not_mem_nil, or_false] at hk
  rcases hk with rfl | rfl | rfl | rfl | rfl
  · exact ⟨l0, by rw [errV_pos _ (by decide)]; simpa [gOf] using c0⟩
  · exact ⟨l1, by rw [errV_pos _ (by decide)]; simpa [gOf] using c1⟩
  · exact ⟨l2, by rw [errV_pos _ (by decide)]; simpa [gOf] using c2⟩
  · exact ⟨l3, by rw [errV_pos _ (by decide)]; simpa [gOf] using c3⟩
  · exact ⟨l4, by rw [errV_pos _ (by decide)]; simpa [gOf] using c4⟩

set_option maxRecDepth 100000 in
theorem lifted (os : Os) (started : os.Started) (H : Type) (enc : TypeId × Value → H) :
    ReturnsInHanded {} Tryd.checked os 8 .any (fun w args => (Rows.frameBackSpec.pre enc Tryd.prog Tryd.f8 [] false w args ∧ laidMetH Tryd.prog Rows.frameBackRow.laid w) ∧ sizedMet enc Tryd.prog Tryd.f8 (OpenSpec.ofChange Rows.frameBackSpec) false w args)
      (Rows.frameBackSpec.post enc Tryd.prog Tryd.f8 false true false false) := by
  refine handed_shaped (C := Tryd.checked) (X := fun w _ => laidMetH Tryd.prog Rows.frameBackRow.laid w) (fun _ _ _ hh h => h.of_heap hh) own started (by kernel_rfl) Tryd.func8
    (ChangeSpec.witness_shaped (enc := enc) (C := Tryd.checked) (os := os) (X := fun w _ => laidMetH Tryd.prog Rows.frameBackRow.laid w) false (World.laidAll Tryd.prog os Rows.frameBackRow.laid) #[.agg #[.int .i64 0, .int .i64 0, .int .i64 0, .int .i64 0, .int .i64 0], .string ByteArray.empty, .int .i64 0, .int .u8 0] 8 (World.laidAll_os _ _ _) (World.shaped_of_ZipB (by kernel_rfl) (by kernel_rfl)) (by kernel_rfl) (by kernel_rfl) (by kernel_rfl) (door_met os _)) ?_
  intro W base args ds gs before hval0 hW hsz hL hsh
  have hval : ∀ (j : Nat) t v, Tryd.f8.params[j]? = some t → args[j]? = some v → Value.okWide Tryd.prog W .any base t v := hval0
  have hW' := hW
  obtain ⟨p, q, hA0, hV, rfl, hfz, hnd⟩ := hW
  have hA : DataW.TrodAll enc Tryd.prog W 0 (fun _ => true) true Tryd.f8.params.toList args.toList ds p := hA0
  rw [Tryd.params8] at hA hval
  obtain ⟨v0, vs0, d0, ds0, p0, q0, hargs, rfl, rfl, h0, r0⟩ := trodAll_cons hA
  obtain ⟨v1, vs1, d1, ds1, p1, q1, rfl, rfl, rfl, h1, r1⟩ := trodAll_cons r0
  obtain ⟨v2, vs2, d2, ds2, p2, q2, rfl, rfl, rfl, h2, r2⟩ := trodAll_cons r1
  obtain ⟨v3, vs3, d3, ds3, p3, q3, rfl, rfl, rfl, h3, r3⟩ := trodAll_cons r2
  obtain ⟨rfl, rfl, rfl⟩ := trodAll_nil r3
  obtain rfl : args = #[v0, v1, v2, v3] := by cases args; simp_all
  obtain ⟨rfl, rfl⟩ := trodVars_none hV
  have hAll := hA
  obtain ⟨xf0, xm0, xo0, xs0, xv0, rfl, wf0, wm0, wo0, ws0, wv0⟩ := open_frame (hval 0 64 v0 rfl rfl) h0
  obtain ⟨x1, rfl, bx1⟩ := open_text (hval 1 9 v1 rfl rfl) h1
  obtain ⟨x2, rfl, rfl, rfl, wx2⟩ := open_int Tryd.underlying3 (hval 2 3 v2 rfl rfl) h2
  have bx2 := int_bounds wx2
  obtain ⟨x3, rfl, rfl, rfl, wx3⟩ := open_int Tryd.underlying5 (hval 3 5 v3 rfl rfl) h3
  have bx3 := u8_bounds wx3
  obtain ⟨⟨ea, hg⟩, hT⟩ := of_laid hL
  have hT := hT hsh
  refine (walk_FrameBack ea xf0 xm0 xo0 xs0 xv0 x1 x2 x3 W hg hT ⟨int_bounds wf0, int_bounds wm0, int_bounds wo0, int_bounds ws0, int_bounds wv0⟩ bx1 bx2 bx3).mono fun e W' ⟨he, hb⟩ => ?_
  subst he
  exact ⟨_, rfl, law_post (s := Rows.frameBackSpec) rfl rfl rfl (by kernel_rfl) hW' hb⟩

theorem holds : Rows.FrameBackSaid :=
  OpenClaim.holds_of_wide 8 Tryd.f8 rfl rfl rfl rfl rfl rfl rfl ⟨rfl, rfl, rfl, rfl, rfl⟩ rfl rfl rfl rfl rfl (by kernel_rfl) Tryd.func8 (by kernel_rfl)
    (of_decide_eq_true (by kernel_rfl)) (by unfold Func.isWrapper; rw [if_neg (of_decide_eq_false (by kernel_rfl))]; exact ⟨rfl, rfl⟩)
    (fun os started H enc _ => lifted os started H enc)

theorem proved : Rows.FrameBackCardSaid :=
  Claim7.holds_tied_plain_at .later [] _ _ _ _
    holds (fun _ h => by cases h) (by kernel_rfl) (fun _ h => by cases h) frameBack_row_tie rfl ⟨rfl, rfl⟩ (by kernel_rfl) rfl
    (fun f fn hf hfn => by
      obtain rfl : f = 8 := Option.some.inj ((show Tryd.prog.funcNamed "bargelock/bargelocklaw1.FrameBack" = some 8 by kernel_rfl).symm.trans hf) |>.symm
      obtain rfl : fn = Tryd.f8 := (Option.some.inj (Tryd.func8.symm.trans hfn)).symm
      exact ⟨by kernel_rfl, fun j t ht => by
        rw [Tryd.params8] at ht
        have hm : t ∈ [64, 9, 3, 5] := by simpa using Array.mem_of_getElem? ht
        have hall : ([64, 9, 3, 5].all fun u => !Tryd.prog.wantsStandIn u) = true := by kernel_rfl
        exact (show Tryd.prog.wantsStandIn t = false by simpa using List.all_eq_true.1 hall t hm)⟩)
    (by kernel_rfl)
#print axioms proved
end Go.Proofs.YtlpgafpmhihneaaDoor.lawFrameBack
