/- ClockHalves: for every input the law returns true, and its arguments read as they did; the row, and the card that ties its listed variables. No condition. -/
import Derived.Test.YtlpgafpmhihneaaDoorRows
import Derived.Test.YtlpgafpmhihneaaDoorCards
import Derived.Test.YtlpgafpmhihneaaDoorTie
import Derived.Test.YtlpgafpmhihneaaDoorOpen
import Derived.Test.YtlpgafpmhihneaaDoorLaid
import Derived.Test.YtlpgafpmhihneaaDoorClockHalves
import Derived.SevenTiedAt
namespace Go.Proofs.YtlpgafpmhihneaaDoor.lawClockHalves
open Go.ChangeShapes Go.WideShapes Go.ChangeAt Go.WideMaps Go.WideElems Go.RowKit

theorem own : ownKnob Tryd.prog.godebug = none := by kernel_rfl
theorem door_met (os : Os) (args : Array Value) : laidMetH Tryd.prog Rows.clockHalvesRow.laid ((World.doorLaid Tryd.prog 288 os).forCall (fun _ _ => 0) ⟨#[], args, []⟩).memory :=
  laidMetH_of_parts3 (fuel := 8) (laidMet_of_run' 8 (by kernel_rfl) (by kernel_rfl)) (by kernel_rfl) (by kernel_rfl)

/-- What the condition gives: the errors' variables. -/
theorem of_laid {W : World} (h : laidMetH Tryd.prog Rows.clockHalvesRow.laid W) : ∃ ea, Glob W ea [2] := by
  rw [MakeChecks.laidMetH_plain _ _ _ (by kernel_rfl)] at h
  obtain ⟨a0, l0, c0⟩ := sentinel_cell (g := 0) (by kernel_rfl) (by kernel_rfl) h
  refine ⟨fun k => if k = 2 then a0 else a0, fun k hk => ?_⟩
  simp only [List.mem_cons, List.not_mem_nil, or_false] at hk
  rcases hk with rfl
  · exact ⟨l0, by rw [errV_pos _ (by decide)]; simpa [gOf] using c0⟩

set_option maxRecDepth 100000 in
theorem lifted (os : Os) (started : os.Started) (H : Type) (enc : TypeId × Value → H) :
    ReturnsInHanded {} Tryd.checked os 4 .any (fun w args => (Rows.clockHalvesSpec.pre enc Tryd.prog Tryd.f4 [] false w args ∧ laidMetH Tryd.prog Rows.clockHalvesRow.laid w) ∧ sizedMet enc Tryd.prog Tryd.f4 (OpenSpec.ofChange Rows.clockHalvesSpec) false w args)
      (Rows.clockHalvesSpec.post enc Tryd.prog Tryd.f4 false true false false) := by
  refine returnsInHanded_of_change_and (C := Tryd.checked) (X := fun w _ => laidMetH Tryd.prog Rows.clockHalvesRow.laid w) (fun _ _ _ hh h => h.of_heap hh) own started (by kernel_rfl) Tryd.func4
    (ChangeSpec.witness_shaped (enc := enc) (C := Tryd.checked) (os := os) (X := fun w _ => laidMetH Tryd.prog Rows.clockHalvesRow.laid w) false (World.doorLaid Tryd.prog 288 os) #[.slice none 0 0, .slice none 0 0, .slice none 0 0] 8 rfl (World.shaped_of_RefB (by kernel_rfl) (by kernel_rfl)) (by kernel_rfl) (by kernel_rfl) (by kernel_rfl) (door_met os _)) ?_
  intro W base args ds gs before hval0 hW _ hsz hL _
  have hval : ∀ (j : Nat) t v, Tryd.f4.params[j]? = some t → args[j]? = some v → Value.okWide Tryd.prog W .any base t v := hval0
  have hW' := hW
  obtain ⟨p, q, hA0, hV, rfl, hfz, hnd⟩ := hW
  have hA : DataW.TrodAll enc Tryd.prog W 0 (fun _ => true) true Tryd.f4.params.toList args.toList ds p := hA0
  rw [Tryd.params4] at hA hval
  obtain ⟨v0, vs0, d0, ds0, p0, q0, hargs, rfl, rfl, h0, r0⟩ := trodAll_cons hA
  obtain ⟨v1, vs1, d1, ds1, p1, q1, rfl, rfl, rfl, h1, r1⟩ := trodAll_cons r0
  obtain ⟨v2, vs2, d2, ds2, p2, q2, rfl, rfl, rfl, h2, r2⟩ := trodAll_cons r1
  obtain ⟨rfl, rfl, rfl⟩ := trodAll_nil r2
  obtain rfl : args = #[v0, v1, v2] := by cases args; simp_all
  obtain ⟨rfl, rfl⟩ := trodVars_none hV
  have hAll := hA
  obtain ⟨a0, n0, c0, rfl⟩ := okWide_slice Tryd.underlying22 (hval 0 22 v0 rfl rfl)
  obtain ⟨fu0, hf0⟩ := h0
  obtain ⟨l0, hn0, hr0, hc0, hm0, hwf0, hd0⟩ := open_intsL Tryd.underlying22 hf0
  have hb0 : n0 ≤ 4611686018427387904 := by
    rcases hd0 with ⟨_, e⟩ | ⟨el, sp, e1, e2⟩
    · omega
    · have e1' : d0 = .slice el sp := e1
      have := sized_slice hsz (j := 0) (t := 22) rfl (by rw [e1']; rfl) Tryd.underlying22
      have hby : Tryd.prog.bytesOf 3 = 8 := by kernel_rfl
      have hz : (el.length + sp.length) * 8 ≤ reachBytes := by rw [← hby]; exact this
      have := reachBytes_lt; omega
  obtain ⟨a1, n1, c1, rfl⟩ := okWide_slice Tryd.underlying22 (hval 1 22 v1 rfl rfl)
  obtain ⟨fu1, hf1⟩ := h1
  obtain ⟨l1, hn1, hr1, hc1, hm1, hwf1, hd1⟩ := open_intsL Tryd.underlying22 hf1
  have hb1 : n1 ≤ 4611686018427387904 := by
    rcases hd1 with ⟨_, e⟩ | ⟨el, sp, e1, e2⟩
    · omega
    · have e1' : d1 = .slice el sp := e1
      have := sized_slice hsz (j := 1) (t := 22) rfl (by rw [e1']; rfl) Tryd.underlying22
      have hby : Tryd.prog.bytesOf 3 = 8 := by kernel_rfl
      have hz : (el.length + sp.length) * 8 ≤ reachBytes := by rw [← hby]; exact this
      have := reachBytes_lt; omega
  obtain ⟨a2, n2, c2, rfl⟩ := okWide_slice Tryd.underlying22 (hval 2 22 v2 rfl rfl)
  obtain ⟨fu2, hf2⟩ := h2
  obtain ⟨l2, hn2, hr2, hc2, hm2, hwf2, hd2⟩ := open_intsL Tryd.underlying22 hf2
  have hb2 : n2 ≤ 4611686018427387904 := by
    rcases hd2 with ⟨_, e⟩ | ⟨el, sp, e1, e2⟩
    · omega
    · have e1' : d2 = .slice el sp := e1
      have := sized_slice hsz (j := 2) (t := 22) rfl (by rw [e1']; rfl) Tryd.underlying22
      have hby : Tryd.prog.bytesOf 3 = 8 := by kernel_rfl
      have hz : (el.length + sp.length) * 8 ≤ reachBytes := by rw [← hby]; exact this
      have := reachBytes_lt; omega
  obtain ⟨ea, hg⟩ := of_laid hL
  refine (walk_ClockHalves ea a0 n0 c0 l0 a1 n1 c1 l1 a2 n2 c2 l2 W hg hn0 hr0 hc0 hb0 hn1 hr1 hc1 hb1 hn2 hr2 hc2 hb2).mono fun e W' ⟨he, hb⟩ => ?_
  subst he
  exact ⟨_, rfl, law_post (s := Rows.clockHalvesSpec) rfl rfl rfl (by kernel_rfl) hW' hb⟩

theorem holds : Rows.ClockHalvesSaid :=
  OpenClaim.holds_of_wide 4 Tryd.f4 rfl rfl rfl rfl rfl rfl rfl ⟨rfl, rfl, rfl, rfl, rfl⟩ rfl rfl rfl rfl rfl (by kernel_rfl) Tryd.func4 (by kernel_rfl)
    (of_decide_eq_true (by kernel_rfl)) (by unfold Func.isWrapper; rw [if_neg (of_decide_eq_false (by kernel_rfl))]; exact ⟨rfl, rfl⟩)
    (fun os started H enc _ => lifted os started H enc)

theorem proved : Rows.ClockHalvesCardSaid :=
  Claim7.holds_tied_plain_at .later [] _ _ _ _
    holds (fun _ h => by cases h) (by kernel_rfl) (fun _ h => by cases h) clockHalves_row_tie rfl ⟨rfl, rfl⟩ (by kernel_rfl) rfl
    (fun f fn hf hfn => by
      obtain rfl : f = 4 := Option.some.inj ((show Tryd.prog.funcNamed "bargelock/bargelocklaw1.ClockHalves" = some 4 by kernel_rfl).symm.trans hf) |>.symm
      obtain rfl : fn = Tryd.f4 := (Option.some.inj (Tryd.func4.symm.trans hfn)).symm
      exact ⟨by kernel_rfl, fun j t ht => by
        rw [Tryd.params4] at ht
        have hm : t ∈ [22, 22, 22] := by simpa using Array.mem_of_getElem? ht
        have hall : ([22, 22, 22].all fun u => !Tryd.prog.wantsStandIn u) = true := by kernel_rfl
        exact (show Tryd.prog.wantsStandIn t = false by simpa using List.all_eq_true.1 hall t hm)⟩)
    (by kernel_rfl)
#print axioms proved
end Go.Proofs.YtlpgafpmhihneaaDoor.lawClockHalves
