/- MemberAgrees: for every input the law returns true, and its arguments read as they did; the row, and the card that ties its listed variables. No condition. -/
import Derived.Test.YtbfocagicagehaaDoorRows
import Derived.Test.YtbfocagicagehaaDoorCards
import Derived.Test.YtbfocagicagehaaDoorTie
import Derived.Test.YtbfocagicagehaaDoorOpen
import Derived.Test.YtbfocagicagehaaDoorLaid
import Derived.Test.YtbfocagicagehaaDoorMemAgrees
import Derived.Test.YtbfocagicagehaaDoorOpenTxt
import Derived.Test.YtbfocagicagehaaDoorWrap
import Derived.SevenTiedAt
import Derived.Lay
namespace Go.Proofs.YtbfocagicagehaaDoor.lawMemberAgrees
open Go.ChangeShapes Go.WideShapes Go.ChangeAt Go.WideMaps Go.WideElems Go.RowKit

theorem own : ownKnob Tryd.prog.godebug = none := by kernel_rfl
theorem door_met (os : Os) (args : Array Value) : laidMetH Tryd.prog Rows.memberAgreesRow.laid ((World.laidAll Tryd.prog os Rows.memberAgreesRow.laid).forCall (fun _ _ => 0) ⟨#[], args, []⟩).memory := by
  rw [MakeChecks.laidMetH_plain _ _ _ (by kernel_rfl)]; exact laidMet_laidAll _ (by kernel_rfl) (by kernel_rfl)

/-- What the condition gives: the errors' variables. -/
theorem of_laid {W : World} (h : laidMetH Tryd.prog Rows.memberAgreesRow.laid W) : (∃ ea, Glob W ea [1, 2, 3, 4, 5, 7, 8, 9]) ∧ (W.ShapedOpen Tryd.prog → TxtEnv W) := by
  rw [MakeChecks.laidMetH_plain _ _ _ (by kernel_rfl)] at h
  have h := h.tail
  have h := h.tail
  have hT := pow10_tab h
  have h := h.tail
  have h := h.tail
  obtain ⟨a0, l0, c0⟩ := sentinel_cell (g := 2) (by kernel_rfl) (by kernel_rfl) h
  have h := h.tail
  obtain ⟨a1, l1, c1⟩ := sentinel_cell (g := 1) (by kernel_rfl) (by kernel_rfl) h
  have h := h.tail
  obtain ⟨a2, l2, c2⟩ := sentinel_cell (g := 7) (by kernel_rfl) (by kernel_rfl) h
  have h := h.tail
  obtain ⟨a3, l3, c3⟩ := sentinel_cell (g := 4) (by kernel_rfl) (by kernel_rfl) h
  have h := h.tail
  obtain ⟨a4, l4, c4⟩ := sentinel_cell (g := 3) (by kernel_rfl) (by kernel_rfl) h
  have h := h.tail
  obtain ⟨a5, l5, c5⟩ := sentinel_cell (g := 0) (by kernel_rfl) (by kernel_rfl) h
  have h := h.tail
  obtain ⟨a6, l6, c6⟩ := sentinel_cell (g := 8) (by kernel_rfl) (by kernel_rfl) h
  have h := h.tail
  obtain ⟨a7, l7, c7⟩ := sentinel_cell (g := 5) (by kernel_rfl) (by kernel_rfl) h
  have h := h.tail
  obtain ⟨ar, lr, cr⟩ := sentinel_cell (g := 14) (by kernel_rfl) (by kernel_rfl) h
  have h := h.tail
  obtain ⟨ay, ly, cy⟩ := sentinel_cell (g := 13) (by kernel_rfl) (by kernel_rfl) h
  refine ⟨?_, fun hsh => txtEnv_of hT ⟨_, _, ly, cy⟩ ⟨_, _, lr, cr⟩ hsh⟩
  refine ⟨fun k => if k = 1 then a0 else if k = 2 then a1 else if k = 3 then a2 else if k = 4 then a3 else if k = 5 then a4 else if k = 7 then a5 else if k = 8 then a6 else if k = 9 then a7 else a0, fun k hk => ?_⟩
  simp only [List.mem_cons, List.not_mem_nil, or_false] at hk
  rcases hk with rfl | rfl | rfl | rfl | rfl | rfl | rfl | rfl
  · exact ⟨l0, by rw [errV_pos _ (by decide)]; simpa [gOf] using c0⟩
  · exact ⟨l1, by rw [errV_pos _ (by decide)]; simpa [gOf] using c1⟩
  · exact ⟨l2, by rw [errV_pos _ (by decide)]; simpa [gOf] using c2⟩
  · exact ⟨l3, by rw [errV_pos _ (by decide)]; simpa [gOf] using c3⟩
  · exact ⟨l4, by rw [errV_pos _ (by decide)]; simpa [gOf] using c4⟩
  · exact ⟨l5, by rw [errV_pos _ (by decide)]; simpa [gOf] using c5⟩
  · exact ⟨l6, by rw [errV_pos _ (by decide)]; simpa [gOf] using c6⟩
  · exact ⟨l7, by rw [errV_pos _ (by decide)]; simpa [gOf] using c7⟩

set_option maxRecDepth 100000 in
theorem lifted (os : Os) (started : os.Started) (H : Type) (enc : TypeId × Value → H) :
    ReturnsInHanded {} Tryd.checked os 4 .any (fun w args => (Rows.memberAgreesSpec.pre enc Tryd.prog Tryd.f4 [] false w args ∧ laidMetH Tryd.prog Rows.memberAgreesRow.laid w) ∧ sizedMet enc Tryd.prog Tryd.f4 (OpenSpec.ofChange Rows.memberAgreesSpec) false w args)
      (Rows.memberAgreesSpec.post enc Tryd.prog Tryd.f4 false true false false) := by
  refine handed_shaped (C := Tryd.checked) (X := fun w _ => laidMetH Tryd.prog Rows.memberAgreesRow.laid w) (fun _ _ _ hh h => h.of_heap hh) own started (by kernel_rfl) Tryd.func4
    (ChangeSpec.witness_shaped (enc := enc) (C := Tryd.checked) (os := os) (X := fun w _ => laidMetH Tryd.prog Rows.memberAgreesRow.laid w) false (World.laidAll Tryd.prog os Rows.memberAgreesRow.laid) #[.slice none 0 0, .agg #[.int .i64 0, .int .i64 0, .int .i64 0], .agg #[.int .i64 0, .int .i64 0, .int .i64 0], .int .i64 0] 8 (World.laidAll_os _ _ _) (World.shaped_of_ZipB (by kernel_rfl) (by kernel_rfl)) (by kernel_rfl) (by kernel_rfl) (by kernel_rfl) (door_met os _)) ?_
  intro W base args ds gs before hval0 hW hsz hL hsh
  have hval : ∀ (j : Nat) t v, Tryd.f4.params[j]? = some t → args[j]? = some v → Value.okWide Tryd.prog W .any base t v := hval0
  have hW' := hW
  obtain ⟨p, q, hA0, hV, rfl, hfz, hnd⟩ := hW
  have hA : DataW.TrodAll enc Tryd.prog W 0 (fun _ => true) true Tryd.f4.params.toList args.toList ds p := hA0
  rw [Tryd.params4] at hA hval
  obtain ⟨v0, vs0, d0, ds0, p0, q0, hargs, rfl, rfl, h0, r0⟩ := trodAll_cons hA
  obtain ⟨v1, vs1, d1, ds1, p1, q1, rfl, rfl, rfl, h1, r1⟩ := trodAll_cons r0
  obtain ⟨v2, vs2, d2, ds2, p2, q2, rfl, rfl, rfl, h2, r2⟩ := trodAll_cons r1
  obtain ⟨v3, vs3, d3, ds3, p3, q3, rfl, rfl, rfl, h3, r3⟩ := trodAll_cons r2
  obtain ⟨rfl, rfl, rfl⟩ := trodAll_nil r3
  obtain rfl : args = #[v0, v1, v2, v3] := by cases args; simp_all
  obtain ⟨rfl, rfl⟩ := trodVars_none hV
  have hAll := hA
  obtain ⟨a0, n0, c0, rfl⟩ := okWide_slice Tryd.underlying32 (hval 0 32 v0 rfl rfl)
  obtain ⟨fu0, hf0⟩ := h0
  obtain ⟨l0, hn0, hr0, hc0, hm0, hwf0, hd0⟩ := open_intsL Tryd.underlying32 hf0
  have hb0 : n0 ≤ 4611686018427387904 := by
    rcases hd0 with ⟨_, e⟩ | ⟨el, sp, e1, e2⟩
    · omega
    · have e1' : d0 = .slice el sp := e1
      have := sized_slice hsz (j := 0) (t := 32) rfl (by rw [e1']; rfl) Tryd.underlying32
      have hby : Tryd.prog.bytesOf 3 = 8 := by kernel_rfl
      have hz : (el.length + sp.length) * 8 ≤ reachBytes := by rw [← hby]; exact this
      have := reachBytes_lt; omega
  obtain ⟨xm1, xo1, xs1, rfl, wm1, wo1, ws1⟩ := open_view (hval 1 42 v1 rfl rfl) h1
  obtain ⟨xm2, xo2, xs2, rfl, wm2, wo2, ws2⟩ := open_view (hval 2 42 v2 rfl rfl) h2
  obtain ⟨x3, rfl, rfl, rfl, wx3⟩ := open_int Tryd.underlying3 (hval 3 3 v3 rfl rfl) h3
  have bx3 := int_bounds wx3
  obtain ⟨⟨ea, hg⟩, hT⟩ := of_laid hL
  have hT := hT hsh
  refine (walk_MemberAgrees ea a0 n0 c0 l0 xm1 xo1 xs1 xm2 xo2 xs2 x3 W hg hT hn0 hr0 hc0 hb0 ⟨int_bounds wm1, int_bounds wo1, int_bounds ws1⟩ ⟨int_bounds wm2, int_bounds wo2, int_bounds ws2⟩ bx3).mono fun e W' ⟨he, hb⟩ => ?_
  subst he
  exact ⟨_, rfl, law_post (s := Rows.memberAgreesSpec) rfl rfl rfl (by kernel_rfl) hW' hb⟩

theorem holds : Rows.MemberAgreesSaid :=
  OpenClaim.holds_of_wide 4 Tryd.f4 rfl rfl rfl rfl rfl rfl rfl ⟨rfl, rfl, rfl, rfl, rfl⟩ rfl rfl rfl rfl rfl (by kernel_rfl) Tryd.func4 (by kernel_rfl)
    (of_decide_eq_true (by kernel_rfl)) (by unfold Func.isWrapper; rw [if_neg (of_decide_eq_false (by kernel_rfl))]; exact ⟨rfl, rfl⟩)
    (fun os started H enc _ => lifted os started H enc)

theorem proved : Rows.MemberAgreesCardSaid :=
  Claim7.holds_tied_plain_at .later [] _ _ _ _
    holds (fun _ h => by cases h) (by kernel_rfl) (fun _ h => by cases h) memberAgrees_row_tie rfl ⟨rfl, rfl⟩ (by kernel_rfl) rfl
    (fun f fn hf hfn => by
      obtain rfl : f = 4 := Option.some.inj ((show Tryd.prog.funcNamed "bargelock/bargelocklaw2.MemberAgrees" = some 4 by kernel_rfl).symm.trans hf) |>.symm
      obtain rfl : fn = Tryd.f4 := (Option.some.inj (Tryd.func4.symm.trans hfn)).symm
      exact ⟨by kernel_rfl, fun j t ht => by
        rw [Tryd.params4] at ht
        have hm : t ∈ [32, 42, 42, 3] := by simpa using Array.mem_of_getElem? ht
        have hall : ([32, 42, 42, 3].all fun u => !Tryd.prog.wantsStandIn u) = true := by kernel_rfl
        exact (show Tryd.prog.wantsStandIn t = false by simpa using List.all_eq_true.1 hall t hm)⟩)
    (by kernel_rfl)
#print axioms proved
end Go.Proofs.YtbfocagicagehaaDoor.lawMemberAgrees
