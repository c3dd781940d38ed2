/- TapeActs: for every input the law returns true, and its arguments read as they did; the row, and the card that ties its listed variables. No condition. -/
import Derived.Test.YtgghnncgeogemaaDoorRows
import Derived.Test.YtgghnncgeogemaaDoorCards
import Derived.Test.YtgghnncgeogemaaDoorTie
import Derived.Test.YtgghnncgeogemaaDoorOpen
import Derived.Test.YtgghnncgeogemaaDoorLaid
import Derived.Test.YtgghnncgeogemaaDoorTapeActs
import Derived.Test.YtgghnncgeogemaaDoorOpenTxt
import Derived.Test.YtgghnncgeogemaaDoorOpenWr
import Derived.Test.YtgghnncgeogemaaDoorLaidC
import Derived.Test.YtgghnncgeogemaaDoorWrap
import Derived.SevenTiedAt
import Derived.Lay
namespace Go.Proofs.YtgghnncgeogemaaDoor.lawTapeActs
open Go.ChangeShapes Go.WideShapes Go.ChangeAt Go.WideMaps Go.WideElems Go.RowKit

theorem own : ownKnob Tryd.prog.godebug = none := by kernel_rfl
theorem door_met (os : Os) (args : Array Value) : laidMetH Tryd.prog Rows.tapeActsRow.laid ((World.doorLaid Tryd.prog 278 os).forCall (fun _ _ => 0) ⟨#[], args, []⟩).memory :=
  laidMetH_of_parts3 (fuel := 8) (laidMet_of_run' 8 (by kernel_rfl) (by kernel_rfl)) (by kernel_rfl) (by kernel_rfl)

/-- What the condition gives: eleven errors and the handle. -/
theorem of_laid {W : World} (h : laidMetH Tryd.prog Rows.tapeActsRow.laid W) : (∃ ea, GlobC W ea) ∧ (W.ShapedOpen Tryd.prog → TxtEnv W) := by
  have h' : laidMet Tryd.prog [("math/bits.deBruijn32tab", Rows.laid_math_bits_deBruijn32tab), ("math/bits.deBruijn64tab", Rows.laid_math_bits_deBruijn64tab), ("internal/strconv.uint64pow10", Rows.laid_internal_strconv_uint64pow10), ("bargelock/api.ErrText", Rows.laid_bargelock_api_ErrText), ("bargelock/api.ErrBound", Rows.laid_bargelock_api_ErrBound), ("bargelock/api.ErrShape", Rows.laid_bargelock_api_ErrShape), ("bargelock/api.ErrNode", Rows.laid_bargelock_api_ErrNode), ("bargelock/api.ErrNone", Rows.laid_bargelock_api_ErrNone), ("bargelock/api.ErrExist", Rows.laid_bargelock_api_ErrExist), ("bargelock/api.ErrFull", Rows.laid_bargelock_api_ErrFull), ("bargelock/api.ErrSum", Rows.laid_bargelock_api_ErrSum), ("bargelock/api.ErrLate", Rows.laid_bargelock_api_ErrLate), ("bargelock/api.ErrGap", Rows.laid_bargelock_api_ErrGap), ("bargelock/api.ErrOff", Rows.laid_bargelock_api_ErrOff), ("strconv.ErrRange", Rows.laid_strconv_ErrRange), ("strconv.ErrSyntax", Rows.laid_strconv_ErrSyntax)] W ∧ handlesMet Tryd.prog [("errors.errorType", Rows.laid_errors_errorType)] W := h
  have hE := errType_of h'.2
  have h := h'.1
  have h := h.tail
  have h := h.tail
  have hT := pow10_tab h
  have h := h.tail
  obtain ⟨a0, l0, c0, b0, s0⟩ := sentinelC (g := 4) (by kernel_rfl) (by kernel_rfl) h
  have h := h.tail
  obtain ⟨a1, l1, c1, b1, s1⟩ := sentinelC (g := 0) (by kernel_rfl) (by kernel_rfl) h
  have h := h.tail
  obtain ⟨a2, l2, c2, b2, s2⟩ := sentinelC (g := 2) (by kernel_rfl) (by kernel_rfl) h
  have h := h.tail
  obtain ⟨a3, l3, c3, b3, s3⟩ := sentinelC (g := 5) (by kernel_rfl) (by kernel_rfl) h
  have h := h.tail
  obtain ⟨a4, l4, c4, b4, s4⟩ := sentinelC (g := 6) (by kernel_rfl) (by kernel_rfl) h
  have h := h.tail
  obtain ⟨a5, l5, c5, b5, s5⟩ := sentinelC (g := 7) (by kernel_rfl) (by kernel_rfl) h
  have h := h.tail
  obtain ⟨a6, l6, c6, b6, s6⟩ := sentinelC (g := 3) (by kernel_rfl) (by kernel_rfl) h
  have h := h.tail
  obtain ⟨a7, l7, c7, b7, s7⟩ := sentinelC (g := 8) (by kernel_rfl) (by kernel_rfl) h
  have h := h.tail
  obtain ⟨a8, l8, c8, b8, s8⟩ := sentinelC (g := 9) (by kernel_rfl) (by kernel_rfl) h
  have h := h.tail
  obtain ⟨a9, l9, c9, b9, s9⟩ := sentinelC (g := 10) (by kernel_rfl) (by kernel_rfl) h
  have h := h.tail
  obtain ⟨a10, l10, c10, b10, s10⟩ := sentinelC (g := 1) (by kernel_rfl) (by kernel_rfl) h
  have h := h.tail
  obtain ⟨ar, lr, cr⟩ := sentinel_cell (g := 14) (by kernel_rfl) (by kernel_rfl) h
  have h := h.tail
  obtain ⟨ay, ly, cy⟩ := sentinel_cell (g := 13) (by kernel_rfl) (by kernel_rfl) h
  refine ⟨?_, fun hsh => txtEnv_of hT ⟨_, _, ly, cy⟩ ⟨_, _, lr, cr⟩ hsh⟩
  refine ⟨fun k => if k = 1 then a0 else if k = 2 then a1 else if k = 3 then a2 else if k = 4 then a3 else if k = 5 then a4 else if k = 6 then a5 else if k = 7 then a6 else if k = 8 then a7 else if k = 9 then a8 else if k = 10 then a9 else if k = 11 then a10 else a0, globC_of hE (fun k hk => ?_)⟩
  simp only [List.mem_cons, List.not_mem_nil, or_false] at hk
  rcases hk with rfl | rfl | rfl | rfl | rfl | rfl | rfl | rfl | rfl | rfl | rfl
  · exact ⟨l0, by simpa [gOf] using c0, by simpa using b0, by simpa [txtOf] using s0⟩
  · exact ⟨l1, by simpa [gOf] using c1, by simpa using b1, by simpa [txtOf] using s1⟩
  · exact ⟨l2, by simpa [gOf] using c2, by simpa using b2, by simpa [txtOf] using s2⟩
  · exact ⟨l3, by simpa [gOf] using c3, by simpa using b3, by simpa [txtOf] using s3⟩
  · exact ⟨l4, by simpa [gOf] using c4, by simpa using b4, by simpa [txtOf] using s4⟩
  · exact ⟨l5, by simpa [gOf] using c5, by simpa using b5, by simpa [txtOf] using s5⟩
  · exact ⟨l6, by simpa [gOf] using c6, by simpa using b6, by simpa [txtOf] using s6⟩
  · exact ⟨l7, by simpa [gOf] using c7, by simpa using b7, by simpa [txtOf] using s7⟩
  · exact ⟨l8, by simpa [gOf] using c8, by simpa using b8, by simpa [txtOf] using s8⟩
  · exact ⟨l9, by simpa [gOf] using c9, by simpa using b9, by simpa [txtOf] using s9⟩
  · exact ⟨l10, by simpa [gOf] using c10, by simpa using b10, by simpa [txtOf] using s10⟩

set_option maxRecDepth 100000 in
theorem lifted (os : Os) (started : os.Started) (H : Type) (enc : TypeId × Value → H) :
    ReturnsInHanded {} Tryd.checked os 4 .any (fun w args => (Rows.tapeActsSpec.pre enc Tryd.prog Tryd.f4 [] false w args ∧ laidMetH Tryd.prog Rows.tapeActsRow.laid w) ∧ sizedMet enc Tryd.prog Tryd.f4 (OpenSpec.ofChange Rows.tapeActsSpec) false w args)
      (Rows.tapeActsSpec.post enc Tryd.prog Tryd.f4 false true false false) := by
  refine handed_shaped (C := Tryd.checked) (X := fun w _ => laidMetH Tryd.prog Rows.tapeActsRow.laid w) (fun _ _ _ hh h => h.of_heap hh) own started (by kernel_rfl) Tryd.func4
    (ChangeSpec.witness_shaped (enc := enc) (C := Tryd.checked) (os := os) (X := fun w _ => laidMetH Tryd.prog Rows.tapeActsRow.laid w) false (World.doorLaid Tryd.prog 278 os) #[.string ByteArray.empty, .slice none 0 0] 8 rfl (World.shaped_of_RefB (by kernel_rfl) (by kernel_rfl)) (by kernel_rfl) (by kernel_rfl) (by kernel_rfl) (door_met os _)) ?_
  intro W base args ds gs before hval0 hW hsz hL hsh
  have hval : ∀ (j : Nat) t v, Tryd.f4.params[j]? = some t → args[j]? = some v → Value.okWide Tryd.prog W .any base t v := hval0
  have hW' := hW
  obtain ⟨p, q, hA0, hV, rfl, hfz, hnd⟩ := hW
  have hA : DataW.TrodAll enc Tryd.prog W 0 (fun _ => true) true Tryd.f4.params.toList args.toList ds p := hA0
  rw [Tryd.params4] at hA hval
  obtain ⟨v0, vs0, d0, ds0, p0, q0, hargs, rfl, rfl, h0, r0⟩ := trodAll_cons hA
  obtain ⟨v1, vs1, d1, ds1, p1, q1, rfl, rfl, rfl, h1, r1⟩ := trodAll_cons r0
  obtain ⟨rfl, rfl, rfl⟩ := trodAll_nil r1
  obtain rfl : args = #[v0, v1] := by cases args; simp_all
  obtain ⟨rfl, rfl⟩ := trodVars_none hV
  have hAll := hA
  obtain ⟨x0, rfl, bx0⟩ := open_text (hval 0 9 v0 rfl rfl) h0
  obtain ⟨a1, n1, c1, rfl⟩ := okWide_slice Tryd.underlying38 (hval 1 38 v1 rfl rfl)
  obtain ⟨fu1, hf1⟩ := h1
  obtain ⟨l1, hn1, hr1, hc1, hm1, hwf1, hd1⟩ := open_writesL Tryd.underlying38 hf1
  have hb1 : n1 ≤ 4611686018427387904 := by
    rcases hd1 with ⟨_, e⟩ | ⟨el, sp, e1, e2⟩
    · omega
    · have e1' : d1 = .slice el sp := e1
      have := sized_slice hsz (j := 1) (t := 38) rfl (by rw [e1']; rfl) Tryd.underlying38
      have hby : Tryd.prog.bytesOf 43 = 40 := by kernel_rfl
      have hz : (el.length + sp.length) * 40 ≤ reachBytes := by rw [← hby]; exact this
      have := reachBytes_lt; omega
  obtain ⟨⟨ea, hg⟩, hT⟩ := of_laid hL
  have hT := hT hsh
  refine (walk_TapeActs ea x0 a1 n1 c1 l1 W hg hT bx0 hn1 hr1 hc1 hb1 hwf1).mono fun e W' ⟨he, hb⟩ => ?_
  subst he
  exact ⟨_, rfl, law_post (s := Rows.tapeActsSpec) rfl rfl rfl (by kernel_rfl) hW' hb⟩

theorem holds : Rows.TapeActsSaid :=
  OpenClaim.holds_of_wide 4 Tryd.f4 rfl rfl rfl rfl rfl rfl rfl ⟨rfl, rfl, rfl, rfl, rfl⟩ rfl rfl rfl rfl rfl (by kernel_rfl) Tryd.func4 (by kernel_rfl)
    (of_decide_eq_true (by kernel_rfl)) (by unfold Func.isWrapper; rw [if_neg (of_decide_eq_false (by kernel_rfl))]; exact ⟨rfl, rfl⟩)
    (fun os started H enc _ => lifted os started H enc)

theorem proved : Rows.TapeActsCardSaid :=
  Claim7.holds_tied_plain_at .later [] _ _ _ _
    holds (fun _ h => by cases h) (by kernel_rfl) (fun _ h => by cases h) tapeActs_row_tie rfl ⟨rfl, rfl⟩ (by kernel_rfl) rfl
    (fun f fn hf hfn => by
      obtain rfl : f = 4 := Option.some.inj ((show Tryd.prog.funcNamed "bargelock/bargelocklaw3.TapeActs" = some 4 by kernel_rfl).symm.trans hf) |>.symm
      obtain rfl : fn = Tryd.f4 := (Option.some.inj (Tryd.func4.symm.trans hfn)).symm
      exact ⟨by kernel_rfl, fun j t ht => by
        rw [Tryd.params4] at ht
        have hm : t ∈ [9, 38] := by simpa using Array.mem_of_getElem? ht
        have hall : ([9, 38].all fun u => !Tryd.prog.wantsStandIn u) = true := by kernel_rfl
        exact (show Tryd.prog.wantsStandIn t = false by simpa using List.all_eq_true.1 hall t hm)⟩)
    (by kernel_rfl)
#print axioms proved
end Go.Proofs.YtgghnncgeogemaaDoor.lawTapeActs
