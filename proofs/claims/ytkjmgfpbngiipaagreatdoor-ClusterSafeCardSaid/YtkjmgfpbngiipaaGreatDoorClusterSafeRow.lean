/- ClusterSafe: for every input the law returns true, and its arguments read as they did; the row, and the card that ties its listed variables. No condition. -/
import Derived.Test.YtkjmgfpbngiipaaGreatDoorRows
import Derived.Test.YtkjmgfpbngiipaaGreatDoorCards
import Derived.Test.YtkjmgfpbngiipaaGreatDoorTie
import Derived.Test.YtkjmgfpbngiipaaGreatDoorOpen
import Derived.Test.YtkjmgfpbngiipaaGreatDoorLaid
import Derived.Test.YtkjmgfpbngiipaaGreatDoorClusSafe
import Derived.Test.YtkjmgfpbngiipaaGreatDoorOpenAct
import Derived.Test.YtkjmgfpbngiipaaGreatDoorWrap
import Derived.SevenTiedAt
import Derived.Lay
namespace Go.Proofs.YtkjmgfpbngiipaaGreatDoor.lawClusterSafe
open Go.ChangeShapes Go.WideShapes Go.ChangeAt Go.WideMaps Go.WideElems Go.RowKit

theorem own : ownKnob Tryz.prog.godebug = none := by kernel_rfl
theorem door_met (os : Os) (args : Array Value) : laidMetH Tryz.prog Rows.clusterSafeRow.laid ((World.laidAll Tryz.prog os Rows.clusterSafeRow.laid).forCall (fun _ _ => 0) ⟨#[], args, []⟩).memory := by
  rw [MakeChecks.laidMetH_plain _ _ _ (by kernel_rfl)]; exact laidMet_laidAll _ (by kernel_rfl) (by kernel_rfl)

/-- What the condition gives: the errors' variables. -/
theorem of_laid {W : World} (h : laidMetH Tryz.prog Rows.clusterSafeRow.laid W) : (∃ ea, Glob W ea [1, 2, 3, 4, 5, 6, 7, 8, 9, 10, 11]) ∧ (W.ShapedOpen Tryz.prog → TxtEnv W) := by
  rw [MakeChecks.laidMetH_plain _ _ _ (by kernel_rfl)] at h
  have h := h.tail
  have h := h.tail
  have hT := pow10_tab h
  have h := h.tail
  have h := h.tail
  obtain ⟨a0, l0, c0⟩ := sentinel_cell (g := 3) (by kernel_rfl) (by kernel_rfl) h
  have h := h.tail
  obtain ⟨a1, l1, c1⟩ := sentinel_cell (g := 1) (by kernel_rfl) (by kernel_rfl) h
  have h := h.tail
  obtain ⟨a2, l2, c2⟩ := sentinel_cell (g := 7) (by kernel_rfl) (by kernel_rfl) h
  have h := h.tail
  obtain ⟨a3, l3, c3⟩ := sentinel_cell (g := 4) (by kernel_rfl) (by kernel_rfl) h
  have h := h.tail
  obtain ⟨a4, l4, c4⟩ := sentinel_cell (g := 8) (by kernel_rfl) (by kernel_rfl) h
  have h := h.tail
  obtain ⟨a5, l5, c5⟩ := sentinel_cell (g := 9) (by kernel_rfl) (by kernel_rfl) h
  have h := h.tail
  obtain ⟨a6, l6, c6⟩ := sentinel_cell (g := 0) (by kernel_rfl) (by kernel_rfl) h
  have h := h.tail
  obtain ⟨a7, l7, c7⟩ := sentinel_cell (g := 6) (by kernel_rfl) (by kernel_rfl) h
  have h := h.tail
  obtain ⟨a8, l8, c8⟩ := sentinel_cell (g := 5) (by kernel_rfl) (by kernel_rfl) h
  have h := h.tail
  obtain ⟨a9, l9, c9⟩ := sentinel_cell (g := 10) (by kernel_rfl) (by kernel_rfl) h
  have h := h.tail
  obtain ⟨a10, l10, c10⟩ := sentinel_cell (g := 2) (by kernel_rfl) (by kernel_rfl) h
  have h := h.tail
  obtain ⟨ar, lr, cr⟩ := sentinel_cell (g := 14) (by kernel_rfl) (by kernel_rfl) h
  have h := h.tail
  obtain ⟨ay, ly, cy⟩ := sentinel_cell (g := 13) (by kernel_rfl) (by kernel_rfl) h
  refine ⟨?_, fun hsh => txtEnv_of hT ⟨_, _, ly, cy⟩ ⟨_, _, lr, cr⟩ hsh⟩
  refine ⟨fun k => if k = 1 then a0 else if k = 2 then a1 else if k = 3 then a2 else if k = 4 then a3 else if k = 5 then a4 else if k = 6 then a5 else if k = 7 then a6 else if k = 8 then a7 else if k = 9 then a8 else if k = 10 then a9 else if k = 11 then a10 else a0, fun k hk => ?_⟩
  simp only [List.mem_cons, List.not_mem_nil, or_false] at hk
  rcases hk with rfl | rfl | rfl | rfl | rfl | rfl | rfl | rfl | rfl | rfl | rfl
  · exact ⟨l0, by rw [errV_pos _ (by decide)]; simpa [gOf] using c0⟩
  · exact ⟨l1, by rw [errV_pos _ (by decide)]; simpa [gOf] using c1⟩
  · exact ⟨l2, by rw [errV_pos _ (by decide)]; simpa [gOf] using c2⟩
  · exact ⟨l3, by rw [errV_pos _ (by decide)]; simpa [gOf] using c3⟩
  · exact ⟨l4, by rw [errV_pos _ (by decide)]; simpa [gOf] using c4⟩
  · exact ⟨l5, by rw [errV_pos _ (by decide)]; simpa [gOf] using c5⟩
  · exact ⟨l6, by rw [errV_pos _ (by decide)]; simpa [gOf] using c6⟩
  · exact ⟨l7, by rw [errV_pos _ (by decide)]; simpa [gOf] using c7⟩
  · exact ⟨l8, by rw [errV_pos _ (by decide)]; simpa [gOf] using c8⟩
  · exact ⟨l9, by rw [errV_pos _ (by decide)]; simpa [gOf] using c9⟩
  · exact ⟨l10, by rw [errV_pos _ (by decide)]; simpa [gOf] using c10⟩

set_option maxRecDepth 100000 in
theorem lifted (os : Os) (started : os.Started) (H : Type) (enc : TypeId × Value → H) :
    ReturnsInHanded {} Tryz.checked os 3 .any (fun w args => (Rows.clusterSafeSpec.pre enc Tryz.prog Tryz.f3 [] false w args ∧ laidMetH Tryz.prog Rows.clusterSafeRow.laid w) ∧ sizedMet enc Tryz.prog Tryz.f3 (OpenSpec.ofChange Rows.clusterSafeSpec) false w args)
      (Rows.clusterSafeSpec.post enc Tryz.prog Tryz.f3 false true false false) := by
  refine handed_shaped (C := Tryz.checked) (X := fun w _ => laidMetH Tryz.prog Rows.clusterSafeRow.laid w) (fun _ _ _ hh h => h.of_heap hh) own started (by kernel_rfl) Tryz.func3
    (ChangeSpec.witness_shaped (enc := enc) (C := Tryz.checked) (os := os) (X := fun w _ => laidMetH Tryz.prog Rows.clusterSafeRow.laid w) false (World.laidAll Tryz.prog os Rows.clusterSafeRow.laid) #[.slice none 0 0, .slice none 0 0] 8 (World.laidAll_os _ _ _) (World.shaped_of_ZipB (by kernel_rfl) (by kernel_rfl)) (by kernel_rfl) (by kernel_rfl) (by kernel_rfl) (door_met os _)) ?_
  intro W base args ds gs before hval0 hW hsz hL hsh
  have hval : ∀ (j : Nat) t v, Tryz.f3.params[j]? = some t → args[j]? = some v → Value.okWide Tryz.prog W .any base t v := hval0
  have hW' := hW
  obtain ⟨p, q, hA0, hV, rfl, hfz, hnd⟩ := hW
  have hA : DataW.TrodAll enc Tryz.prog W 0 (fun _ => true) true Tryz.f3.params.toList args.toList ds p := hA0
  rw [Tryz.params3] at hA hval
  obtain ⟨v0, vs0, d0, ds0, p0, q0, hargs, rfl, rfl, h0, r0⟩ := trodAll_cons hA
  obtain ⟨v1, vs1, d1, ds1, p1, q1, rfl, rfl, rfl, h1, r1⟩ := trodAll_cons r0
  obtain ⟨rfl, rfl, rfl⟩ := trodAll_nil r1
  obtain rfl : args = #[v0, v1] := by cases args; simp_all
  obtain ⟨rfl, rfl⟩ := trodVars_none hV
  have hAll := hA
  obtain ⟨a0, n0, c0, rfl⟩ := okWide_slice Tryz.underlying22 (hval 0 22 v0 rfl rfl)
  obtain ⟨fu0, hf0⟩ := h0
  obtain ⟨l0, hn0, hr0, hc0, hm0, hwf0, hd0⟩ := open_intsL Tryz.underlying22 hf0
  have hb0 : n0 ≤ 4611686018427387904 := by
    rcases hd0 with ⟨_, e⟩ | ⟨el, sp, e1, e2⟩
    · omega
    · have e1' : d0 = .slice el sp := e1
      have := sized_slice hsz (j := 0) (t := 22) rfl (by rw [e1']; rfl) Tryz.underlying22
      have hby : Tryz.prog.bytesOf 3 = 8 := by kernel_rfl
      have hz : (el.length + sp.length) * 8 ≤ reachBytes := by rw [← hby]; exact this
      have := reachBytes_lt; omega
  obtain ⟨a1, n1, c1, rfl⟩ := okWide_slice Tryz.underlying23 (hval 1 23 v1 rfl rfl)
  obtain ⟨fu1, hf1⟩ := h1
  obtain ⟨l1, hn1, hr1, hc1, hm1, hwf1, hd1⟩ := open_actsL Tryz.underlying23 hf1
  have hb1 : n1 ≤ 4611686018427387904 := by
    rcases hd1 with ⟨_, e⟩ | ⟨el, sp, e1, e2⟩
    · omega
    · have e1' : d1 = .slice el sp := e1
      have := sized_slice hsz (j := 1) (t := 23) rfl (by rw [e1']; rfl) Tryz.underlying23
      have hby : Tryz.prog.bytesOf 32 = 56 := by kernel_rfl
      have hz : (el.length + sp.length) * 56 ≤ reachBytes := by rw [← hby]; exact this
      have := reachBytes_lt; omega
  obtain ⟨⟨ea, hg⟩, hT⟩ := of_laid hL
  have hT := hT hsh
  refine (walk_ClusterSafe ea a0 n0 c0 l0 a1 n1 c1 l1 W hg hT hn0 hr0 hc0 hb0 hn1 hr1 hc1 hb1 hwf1).mono fun e W' ⟨he, hb⟩ => ?_
  subst he
  exact ⟨_, rfl, law_post (s := Rows.clusterSafeSpec) rfl rfl rfl (by as_aux_lemma => kernel_rfl) hW' hb⟩

theorem and_t {a b : Bool} (ha : a = true) (hb : b = true) : (a && b) = true := by rw [ha, hb]; rfl
set_option maxHeartbeats 40000000 in
/-- Each closed fact in a declaration of its own: the kernel gives its memory back behind each. -/
theorem closedF : joinedFacts Tryz.prog 3 Tryz.f3 Rows.clusterSafeSpec Rows.clusterSafeRow = true := by
  unfold joinedFacts
  repeat' with_reducible refine and_t ?_ ?_
  all_goals as_aux_lemma => kernel_rfl

theorem holds : Rows.ClusterSafeSaid :=
  OpenClaim.holds_of_wide 3 Tryz.f3 rfl rfl rfl rfl rfl rfl rfl ⟨rfl, rfl, rfl, rfl, rfl⟩ rfl rfl rfl rfl rfl (by as_aux_lemma => kernel_rfl) Tryz.func3 closedF
    (of_decide_eq_true (by kernel_rfl)) (by unfold Func.isWrapper; rw [if_neg (of_decide_eq_false (by kernel_rfl))]; exact ⟨rfl, rfl⟩)
    (fun os started H enc _ => lifted os started H enc)

theorem proved : Rows.ClusterSafeCardSaid :=
  Claim7.holds_tied_plain_at .later [] _ _ _ _
    holds (fun _ h => by cases h) (by as_aux_lemma => kernel_rfl) (fun _ h => by cases h) clusterSafe_row_tie rfl ⟨rfl, rfl⟩ (by as_aux_lemma => kernel_rfl) rfl
    (fun f fn hf hfn => by
      obtain rfl : f = 3 := Option.some.inj ((show Tryz.prog.funcNamed "bargelock/bargelocklaw3.ClusterSafe" = some 3 by as_aux_lemma => kernel_rfl).symm.trans hf) |>.symm
      obtain rfl : fn = Tryz.f3 := (Option.some.inj (Tryz.func3.symm.trans hfn)).symm
      exact ⟨by as_aux_lemma => kernel_rfl, fun j t ht => by
        rw [Tryz.params3] at ht
        have hm : t ∈ [22, 23] := by simpa using Array.mem_of_getElem? ht
        have hall : ([22, 23].all fun u => !Tryz.prog.wantsStandIn u) = true := by as_aux_lemma => kernel_rfl
        exact (show Tryz.prog.wantsStandIn t = false by simpa using List.all_eq_true.1 hall t hm)⟩)
    (by as_aux_lemma => kernel_rfl)
#print axioms proved
end Go.Proofs.YtkjmgfpbngiipaaGreatDoor.lawClusterSafe
