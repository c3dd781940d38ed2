/- BusOne: for every input the law returns true, and its arguments read as they did; the row, and the card that ties its listed variables. No condition. -/
import Derived.Test.YtbhjjbfhncfbdaaDoorRows
import Derived.Test.YtbhjjbfhncfbdaaDoorCards
import Derived.Test.YtbhjjbfhncfbdaaDoorTie
import Derived.Test.YtbhjjbfhncfbdaaDoorOpen
import Derived.Test.YtbhjjbfhncfbdaaDoorLaid
import Derived.Test.YtbhjjbfhncfbdaaDoorBusLaw
import Derived.SevenTiedAt
namespace Go.Proofs.YtbhjjbfhncfbdaaDoor.lawBusOne
open Go.ChangeShapes Go.WideShapes Go.ChangeAt Go.WideMaps Go.WideElems Go.RowKit

theorem own : ownKnob Tryd.prog.godebug = none := by kernel_rfl
theorem door_met (os : Os) (args : Array Value) : laidMetH Tryd.prog Rows.busOneRow.laid ((World.doorLaid Tryd.prog 225 os).forCall (fun _ _ => 0) ⟨#[], args, []⟩).memory :=
  laidMetH_of_parts3 (fuel := 8) (laidMet_of_run' 8 (by kernel_rfl) (by kernel_rfl)) (by kernel_rfl) (by kernel_rfl)

/-- What the condition gives: the errors' variables. -/
theorem of_laid {W : World} (h : laidMetH Tryd.prog Rows.busOneRow.laid W) : ∃ ea, Glob W ea [2, 4, 5, 7, 9] := by
  rw [MakeChecks.laidMetH_plain _ _ _ (by kernel_rfl)] at h
  obtain ⟨a0, l0, c0⟩ := sentinel_cell (g := 3) (by kernel_rfl) (by kernel_rfl) h
  have h := h.tail
  obtain ⟨a1, l1, c1⟩ := sentinel_cell (g := 2) (by kernel_rfl) (by kernel_rfl) h
  have h := h.tail
  obtain ⟨a2, l2, c2⟩ := sentinel_cell (g := 1) (by kernel_rfl) (by kernel_rfl) h
  have h := h.tail
  obtain ⟨a3, l3, c3⟩ := sentinel_cell (g := 0) (by kernel_rfl) (by kernel_rfl) h
  have h := h.tail
  obtain ⟨a4, l4, c4⟩ := sentinel_cell (g := 7) (by kernel_rfl) (by kernel_rfl) h
  refine ⟨fun k => if k = 2 then a0 else if k = 4 then a1 else if k = 5 then a2 else if k = 7 then a3 else if k = 9 then a4 else a0, fun k hk => ?_⟩
  simp only [List.mem_cons, List.not_mem_nil, or_false] at hk
  rcases hk with rfl | rfl | rfl | rfl | rfl
  · exact ⟨l0, by rw [errV_pos _ (by decide)]; simpa [gOf] using c0⟩
  · exact ⟨l1, by rw [errV_pos _ (by decide)]; simpa [gOf] using c1⟩
  · exact ⟨l2, by rw [errV_pos _ (by decide)]; simpa [gOf] using c2⟩
  · exact ⟨l3, by rw [errV_pos _ (by decide)]; simpa [gOf] using c3⟩
  · exact ⟨l4, by rw [errV_pos _ (by decide)]; simpa [gOf] using c4⟩

set_option maxRecDepth 100000 in
theorem lifted (os : Os) (started : os.Started) (H : Type) (enc : TypeId × Value → H) :
    ReturnsInHanded {} Tryd.checked os 6 .any (fun w args => (Rows.busOneSpec.pre enc Tryd.prog Tryd.f6 [] false w args ∧ laidMetH Tryd.prog Rows.busOneRow.laid w) ∧ sizedMet enc Tryd.prog Tryd.f6 (OpenSpec.ofChange Rows.busOneSpec) false w args)
      (Rows.busOneSpec.post enc Tryd.prog Tryd.f6 false true false false) := by
  refine returnsInHanded_of_change_and (C := Tryd.checked) (X := fun w _ => laidMetH Tryd.prog Rows.busOneRow.laid w) (fun _ _ _ hh h => h.of_heap hh) own started (by kernel_rfl) Tryd.func6
    (ChangeSpec.witness_shaped (enc := enc) (C := Tryd.checked) (os := os) (X := fun w _ => laidMetH Tryd.prog Rows.busOneRow.laid w) false (World.doorLaid Tryd.prog 225 os) #[.slice none 0 0, .int .i64 0, .int .i64 0, .slice none 0 0, .slice none 0 0] 8 rfl (World.shaped_of_RefB (by kernel_rfl) (by kernel_rfl)) (by kernel_rfl) (by kernel_rfl) (by kernel_rfl) (door_met os _)) ?_
  intro W base args ds gs before hval0 hW _ hsz hL _
  have hval : ∀ (j : Nat) t v, Tryd.f6.params[j]? = some t → args[j]? = some v → Value.okWide Tryd.prog W .any base t v := hval0
  have hW' := hW
  obtain ⟨p, q, hA0, hV, rfl, hfz, hnd⟩ := hW
  have hA : DataW.TrodAll enc Tryd.prog W 0 (fun _ => true) true Tryd.f6.params.toList args.toList ds p := hA0
  rw [Tryd.params6] at hA hval
  obtain ⟨v0, vs0, d0, ds0, p0, q0, hargs, rfl, rfl, h0, r0⟩ := trodAll_cons hA
  obtain ⟨v1, vs1, d1, ds1, p1, q1, rfl, rfl, rfl, h1, r1⟩ := trodAll_cons r0
  obtain ⟨v2, vs2, d2, ds2, p2, q2, rfl, rfl, rfl, h2, r2⟩ := trodAll_cons r1
  obtain ⟨v3, vs3, d3, ds3, p3, q3, rfl, rfl, rfl, h3, r3⟩ := trodAll_cons r2
  obtain ⟨v4, vs4, d4, ds4, p4, q4, rfl, rfl, rfl, h4, r4⟩ := trodAll_cons r3
  obtain ⟨rfl, rfl, rfl⟩ := trodAll_nil r4
  obtain rfl : args = #[v0, v1, v2, v3, v4] := by cases args; simp_all
  obtain ⟨rfl, rfl⟩ := trodVars_none hV
  have hAll := hA
  obtain ⟨a0, n0, c0, rfl⟩ := okWide_slice Tryd.underlying23 (hval 0 23 v0 rfl rfl)
  obtain ⟨fu0, hf0⟩ := h0
  obtain ⟨l0, hn0, hr0, hc0, hm0, hwf0, hd0⟩ := open_intsL Tryd.underlying23 hf0
  have hb0 : n0 ≤ 4611686018427387904 := by
    rcases hd0 with ⟨_, e⟩ | ⟨el, sp, e1, e2⟩
    · omega
    · have e1' : d0 = .slice el sp := e1
      have := sized_slice hsz (j := 0) (t := 23) rfl (by rw [e1']; rfl) Tryd.underlying23
      have hby : Tryd.prog.bytesOf 3 = 8 := by kernel_rfl
      have hz : (el.length + sp.length) * 8 ≤ reachBytes := by rw [← hby]; exact this
      have := reachBytes_lt; omega
  obtain ⟨x1, rfl, rfl, rfl, wx1⟩ := open_int Tryd.underlying3 (hval 1 3 v1 rfl rfl) h1
  have bx1 := int_bounds wx1
  obtain ⟨x2, rfl, rfl, rfl, wx2⟩ := open_int Tryd.underlying3 (hval 2 3 v2 rfl rfl) h2
  have bx2 := int_bounds wx2
  obtain ⟨a3, n3, c3, rfl⟩ := okWide_slice Tryd.underlying48 (hval 3 48 v3 rfl rfl)
  obtain ⟨fu3, hf3⟩ := h3
  obtain ⟨l3, hn3, hr3, hc3, hm3, hwf3, hd3⟩ := open_sentsL Tryd.underlying48 hf3
  have hb3 : n3 ≤ 4611686018427387904 := by
    rcases hd3 with ⟨_, e⟩ | ⟨el, sp, e1, e2⟩
    · omega
    · have e1' : d3 = .slice el sp := e1
      have := sized_slice hsz (j := 3) (t := 48) rfl (by rw [e1']; rfl) Tryd.underlying48
      have hby : Tryd.prog.bytesOf 56 = 32 := by kernel_rfl
      have hz : (el.length + sp.length) * 32 ≤ reachBytes := by rw [← hby]; exact this
      have := reachBytes_lt; omega
  obtain ⟨a4, n4, c4, rfl⟩ := okWide_slice Tryd.underlying23 (hval 4 23 v4 rfl rfl)
  obtain ⟨fu4, hf4⟩ := h4
  obtain ⟨l4, hn4, hr4, hc4, hm4, hwf4, hd4⟩ := open_intsL Tryd.underlying23 hf4
  have hb4 : n4 ≤ 4611686018427387904 := by
    rcases hd4 with ⟨_, e⟩ | ⟨el, sp, e1, e2⟩
    · omega
    · have e1' : d4 = .slice el sp := e1
      have := sized_slice hsz (j := 4) (t := 23) rfl (by rw [e1']; rfl) Tryd.underlying23
      have hby : Tryd.prog.bytesOf 3 = 8 := by kernel_rfl
      have hz : (el.length + sp.length) * 8 ≤ reachBytes := by rw [← hby]; exact this
      have := reachBytes_lt; omega
  obtain ⟨ea, hg⟩ := of_laid hL
  refine (walk_BusOne ea a0 n0 c0 l0 x1 x2 a3 n3 c3 l3 a4 n4 c4 l4 W hg hn0 hr0 hc0 hb0 bx1 bx2 hn3 hr3 hc3 hb3 hn4 hr4 hc4 hb4).mono fun e W' ⟨he, hb⟩ => ?_
  subst he
  exact ⟨_, rfl, law_post (s := Rows.busOneSpec) rfl rfl rfl (by kernel_rfl) hW' hb⟩

theorem holds : Rows.BusOneSaid :=
  OpenClaim.holds_of_wide 6 Tryd.f6 rfl rfl rfl rfl rfl rfl rfl ⟨rfl, rfl, rfl, rfl, rfl⟩ rfl rfl rfl rfl rfl (by kernel_rfl) Tryd.func6 (by kernel_rfl)
    (of_decide_eq_true (by kernel_rfl)) (by unfold Func.isWrapper; rw [if_neg (of_decide_eq_false (by kernel_rfl))]; exact ⟨rfl, rfl⟩)
    (fun os started H enc _ => lifted os started H enc)

theorem proved : Rows.BusOneCardSaid :=
  Claim7.holds_tied_plain_at .later [] _ _ _ _
    holds (fun _ h => by cases h) (by kernel_rfl) (fun _ h => by cases h) busOne_row_tie rfl ⟨rfl, rfl⟩ (by kernel_rfl) rfl
    (fun f fn hf hfn => by
      obtain rfl : f = 6 := Option.some.inj ((show Tryd.prog.funcNamed "bargelock/bargelocklaw2.BusOne" = some 6 by kernel_rfl).symm.trans hf) |>.symm
      obtain rfl : fn = Tryd.f6 := (Option.some.inj (Tryd.func6.symm.trans hfn)).symm
      exact ⟨by kernel_rfl, fun j t ht => by
        rw [Tryd.params6] at ht
        have hm : t ∈ [23, 3, 3, 48, 23] := by simpa using Array.mem_of_getElem? ht
        have hall : ([23, 3, 3, 48, 23].all fun u => !Tryd.prog.wantsStandIn u) = true := by kernel_rfl
        exact (show Tryd.prog.wantsStandIn t = false by simpa using List.all_eq_true.1 hall t hm)⟩)
    (by kernel_rfl)
#print axioms proved
end Go.Proofs.YtbhjjbfhncfbdaaDoor.lawBusOne
