/- TapeCuts: for every input the law returns true, and its arguments read as they did; the row, and the card that ties its listed variables. No condition. -/
import Derived.Test.YtgghnncgeogemaaDoorRows
import Derived.Test.YtgghnncgeogemaaDoorCards
import Derived.Test.YtgghnncgeogemaaDoorTie
import Derived.Test.YtgghnncgeogemaaDoorOpen
import Derived.Test.YtgghnncgeogemaaDoorLaid
import Derived.Test.YtgghnncgeogemaaDoorTapeCuts
import Derived.Test.YtgghnncgeogemaaDoorOpenTxt
import Derived.Test.YtgghnncgeogemaaDoorWrap
import Derived.SevenTiedAt
import Derived.Lay
namespace Go.Proofs.YtgghnncgeogemaaDoor.lawTapeCuts
open Go.ChangeShapes Go.WideShapes Go.ChangeAt Go.WideMaps Go.WideElems Go.RowKit

theorem own : ownKnob Tryd.prog.godebug = none := by kernel_rfl
theorem door_met (os : Os) (args : Array Value) : laidMetH Tryd.prog Rows.tapeCutsRow.laid ((World.doorLaid Tryd.prog 278 os).forCall (fun _ _ => 0) ⟨#[], args, []⟩).memory :=
  laidMetH_of_parts3 (fuel := 8) (laidMet_of_run' 8 (by kernel_rfl) (by kernel_rfl)) (by kernel_rfl) (by kernel_rfl)

/-- What the condition gives: the errors' variables. -/
theorem of_laid {W : World} (h : laidMetH Tryd.prog Rows.tapeCutsRow.laid W) : (∃ ea, Glob W ea [2, 3, 7, 11]) ∧ (W.ShapedOpen Tryd.prog → TxtEnv W) := by
  rw [MakeChecks.laidMetH_plain _ _ _ (by kernel_rfl)] at h
  have h := h.tail
  have h := h.tail
  have hT := pow10_tab h
  have h := h.tail
  obtain ⟨a0, l0, c0⟩ := sentinel_cell (g := 0) (by kernel_rfl) (by kernel_rfl) h
  have h := h.tail
  obtain ⟨a1, l1, c1⟩ := sentinel_cell (g := 2) (by kernel_rfl) (by kernel_rfl) h
  have h := h.tail
  obtain ⟨a2, l2, c2⟩ := sentinel_cell (g := 3) (by kernel_rfl) (by kernel_rfl) h
  have h := h.tail
  obtain ⟨a3, l3, c3⟩ := sentinel_cell (g := 1) (by kernel_rfl) (by kernel_rfl) h
  have h := h.tail
  obtain ⟨ar, lr, cr⟩ := sentinel_cell (g := 14) (by kernel_rfl) (by kernel_rfl) h
  have h := h.tail
  obtain ⟨ay, ly, cy⟩ := sentinel_cell (g := 13) (by kernel_rfl) (by kernel_rfl) h
  refine ⟨?_, fun hsh => txtEnv_of hT ⟨_, _, ly, cy⟩ ⟨_, _, lr, cr⟩ hsh⟩
  refine ⟨fun k => if k = 2 then a0 else if k = 3 then a1 else if k = 7 then a2 else if k = 11 then a3 else a0, fun k hk => ?_⟩
  simp only [List.mem_cons, List.not_mem_nil, or_false] at hk
  rcases hk with rfl | rfl | rfl | rfl
  · exact ⟨l0, by rw [errV_pos _ (by decide)]; simpa [gOf] using c0⟩
  · exact ⟨l1, by rw [errV_pos _ (by decide)]; simpa [gOf] using c1⟩
  · exact ⟨l2, by rw [errV_pos _ (by decide)]; simpa [gOf] using c2⟩
  · exact ⟨l3, by rw [errV_pos _ (by decide)]; simpa [gOf] using c3⟩

set_option maxRecDepth 100000 in
theorem lifted (os : Os) (started : os.Started) (H : Type) (enc : TypeId × Value → H) :
    ReturnsInHanded {} Tryd.checked os 3 .any (fun w args => (Rows.tapeCutsSpec.pre enc Tryd.prog Tryd.f3 [] false w args ∧ laidMetH Tryd.prog Rows.tapeCutsRow.laid w) ∧ sizedMet enc Tryd.prog Tryd.f3 (OpenSpec.ofChange Rows.tapeCutsSpec) false w args)
      (Rows.tapeCutsSpec.post enc Tryd.prog Tryd.f3 false true false false) := by
  refine handed_shaped (C := Tryd.checked) (X := fun w _ => laidMetH Tryd.prog Rows.tapeCutsRow.laid w) (fun _ _ _ hh h => h.of_heap hh) own started (by kernel_rfl) Tryd.func3
    (ChangeSpec.witness_shaped (enc := enc) (C := Tryd.checked) (os := os) (X := fun w _ => laidMetH Tryd.prog Rows.tapeCutsRow.laid w) false (World.doorLaid Tryd.prog 278 os) #[.slice none 0 0, .int .i64 0] 8 rfl (World.shaped_of_RefB (by kernel_rfl) (by kernel_rfl)) (by kernel_rfl) (by kernel_rfl) (by kernel_rfl) (door_met os _)) ?_
  intro W base args ds gs before hval0 hW hsz hL hsh
  have hval : ∀ (j : Nat) t v, Tryd.f3.params[j]? = some t → args[j]? = some v → Value.okWide Tryd.prog W .any base t v := hval0
  have hW' := hW
  obtain ⟨p, q, hA0, hV, rfl, hfz, hnd⟩ := hW
  have hA : DataW.TrodAll enc Tryd.prog W 0 (fun _ => true) true Tryd.f3.params.toList args.toList ds p := hA0
  rw [Tryd.params3] at hA hval
  obtain ⟨v0, vs0, d0, ds0, p0, q0, hargs, rfl, rfl, h0, r0⟩ := trodAll_cons hA
  obtain ⟨v1, vs1, d1, ds1, p1, q1, rfl, rfl, rfl, h1, r1⟩ := trodAll_cons r0
  obtain ⟨rfl, rfl, rfl⟩ := trodAll_nil r1
  obtain rfl : args = #[v0, v1] := by cases args; simp_all
  obtain ⟨rfl, rfl⟩ := trodVars_none hV
  have hAll := hA
  obtain ⟨a0, n0, c0, rfl⟩ := okWide_slice Tryd.underlying22 (hval 0 22 v0 rfl rfl)
  obtain ⟨fu0, hf0⟩ := h0
  obtain ⟨l0, hn0, hr0, hc0, hm0, hwf0, hd0⟩ := open_textsL Tryd.underlying22 hf0
  have hb0 : n0 ≤ 4611686018427387904 := by
    rcases hd0 with ⟨_, e⟩ | ⟨el, sp, e1, e2⟩
    · omega
    · have e1' : d0 = .slice el sp := e1
      have := sized_slice hsz (j := 0) (t := 22) rfl (by rw [e1']; rfl) Tryd.underlying22
      have hby : Tryd.prog.bytesOf 9 = 16 := by kernel_rfl
      have hz : (el.length + sp.length) * 16 ≤ reachBytes := by rw [← hby]; exact this
      have := reachBytes_lt; omega
  obtain ⟨x1, rfl, rfl, rfl, wx1⟩ := open_int Tryd.underlying3 (hval 1 3 v1 rfl rfl) h1
  have bx1 := int_bounds wx1
  obtain ⟨⟨ea, hg⟩, hT⟩ := of_laid hL
  have hT := hT hsh
  refine (walk_TapeCuts ea a0 n0 c0 l0 x1 W hg hT hn0 hr0 hc0 hb0 bx1).mono fun e W' ⟨he, hb⟩ => ?_
  subst he
  exact ⟨_, rfl, law_post (s := Rows.tapeCutsSpec) rfl rfl rfl (by kernel_rfl) hW' hb⟩

theorem holds : Rows.TapeCutsSaid :=
  OpenClaim.holds_of_wide 3 Tryd.f3 rfl rfl rfl rfl rfl rfl rfl ⟨rfl, rfl, rfl, rfl, rfl⟩ rfl rfl rfl rfl rfl (by kernel_rfl) Tryd.func3 (by kernel_rfl)
    (of_decide_eq_true (by kernel_rfl)) (by unfold Func.isWrapper; rw [if_neg (of_decide_eq_false (by kernel_rfl))]; exact ⟨rfl, rfl⟩)
    (fun os started H enc _ => lifted os started H enc)

theorem proved : Rows.TapeCutsCardSaid :=
  Claim7.holds_tied_plain_at .later [] _ _ _ _
    holds (fun _ h => by cases h) (by kernel_rfl) (fun _ h => by cases h) tapeCuts_row_tie rfl ⟨rfl, rfl⟩ (by kernel_rfl) rfl
    (fun f fn hf hfn => by
      obtain rfl : f = 3 := Option.some.inj ((show Tryd.prog.funcNamed "bargelock/bargelocklaw3.TapeCuts" = some 3 by kernel_rfl).symm.trans hf) |>.symm
      obtain rfl : fn = Tryd.f3 := (Option.some.inj (Tryd.func3.symm.trans hfn)).symm
      exact ⟨by kernel_rfl, fun j t ht => by
        rw [Tryd.params3] at ht
        have hm : t ∈ [22, 3] := by simpa using Array.mem_of_getElem? ht
        have hall : ([22, 3].all fun u => !Tryd.prog.wantsStandIn u) = true := by kernel_rfl
        exact (show Tryd.prog.wantsStandIn t = false by simpa using List.all_eq_true.1 hall t hm)⟩)
    (by kernel_rfl)
#print axioms proved
end Go.Proofs.YtgghnncgeogemaaDoor.lawTapeCuts
