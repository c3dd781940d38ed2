/- member: Check, right, with. -/
import Derived.Test.YtbfocagicagehaaDoorFramePlain
import Derived.Test.YtbfocagicagehaaDoorMemPlain
import Derived.Test.YtbfocagicagehaaDoorPlanAny
import Derived.RegionTactic
namespace Go.Proofs.YtbfocagicagehaaDoor
open Go.RowKit

/-- member.Check's error. -/
def viewE (m d s : Int) : Nat := if crewB m && viewB d s then 0 else 2
/-- member.right's error. -/
def memRF (l : List Int) (m d s : Int) : Nat × Int := if (planF l).1 = 0 then (viewE m d s, -1) else planF l

theorem shl_bit {node : Int} (hn : nodeB node = true) : wrap64 ((2 : Int) ^ (node.toNat - 1)) = (bitOf node : Int) := by
  simp only [nodeB, decide_eq_true_eq] at hn
  have hc : node = 1 ∨ node = 2 ∨ node = 3 ∨ node = 4 ∨ node = 5 ∨ node = 6 ∨ node = 7 ∨ node = 8 ∨ node = 9 ∨ node = 10 ∨ node = 11 ∨ node = 12 ∨ node = 13 ∨ node = 14 ∨ node = 15 ∨ node = 16 := by omega
  rcases hc with rfl | rfl | rfl | rfl | rfl | rfl | rfl | rfl | rfl | rfl | rfl | rfl | rfl | rfl | rfl | rfl <;> decide +kernel
theorem with_any (m : Nat) (d s node : Int) (w : World) (hm : m < 65536) (hn : nodeB node = true) :
    Calls Tryd.prog 34 #[.agg #[.int .i64 m, .int .i64 d, .int .i64 s], .int .i64 node] w fun e w' => e = .returned (.agg #[.int .i64 ((m ||| bitOf node : Nat) : Int), .int .i64 d, .int .i64 s]) ∧ Below w.heap.size w w' := by
  have hb := bitOf_lt hn
  have hO : bits .or .i64 (m : Int) (bitOf node : Int) = ((m ||| bitOf node : Nat) : Int) := or_nat _ _ (by omega) (by omega)
  have hsh := shl_bit hn
  rw [← hsh] at hO
  have HO := Lib.hid hO
  simp only [nodeB, decide_eq_true_eq] at hn
  have h1 : ¬ (node - 1 < 0) := by omega
  clear hO hsh
  go_enter Tryd.func34, Tryd.ntmps34
  go_wp2
  go_region
  all_goals
    go_wp2
    refine bodyPost_ret (v := .agg #[.int .i64 ((m ||| bitOf node : Nat) : Int), .int .i64 d, .int .i64 s]) (by simp [results, Tryd.results34, go_sem, HO.out]) rfl ?_
    exact ⟨rfl, (((Below.refl _ _).alloc (Nat.le_refl _) _).alloc (by simp) _).drew⟩

set_option maxHeartbeats 800000 in
theorem memCheck_any (ea : Nat → Addr) (m d s : Int) (w : World) (hg : Glob w ea [2]) :
    Calls Tryd.prog 16 #[.agg #[.int .i64 m, .int .i64 d, .int .i64 s]] w fun e w' => e = .returned (errV ea (viewE m d s)) ∧ Below w.heap.size w w' := by
  have hb0 : Below w.heap.size w (w.alloc (.cells #[.int .i64 m, .int .i64 d, .int .i64 s] 42)) := (Below.refl _ _).alloc (Nat.le_refl _) _
  have hgb := hg.below hb0
  have g2 := hgb.cell 2 (by simp)
  simp only [gOf] at g2
  have KC := Lib.hid (crewCheck_any ea m _ (hgb.sub (by simp)))
  cases hm : crewB m
  · have HV : Hid (viewE m d s = 2) := by unfold Hid; rw [viewE, hm]; rfl
    have he : errV ea (crewE m) = .iface 147 (.pointer (some (ea 2))) := by rw [crewE, hm]; exact errV_pos ea (by decide)
    rw [he] at KC
    have HP := Lib.hid (errV_pos ea (k := 2) (by decide))
    clear hg hgb hm he
    go_enter Tryd.func16, Tryd.ntmps16
    go_wp2_with fail
    refine KC.out.mono ?_
    rintro e w1 ⟨rfl, rfl⟩
    go_wp2
    go_ret
    exact ⟨by rw [HV.out, HP.out]; rfl, hb0⟩
  · have he : errV ea (crewE m) = .nilIface := by rw [crewE, hm]; exact errV_zero ea
    rw [he] at KC
    have HV : Hid (viewE m d s = if viewB d s then 0 else 2) := by unfold Hid; rw [viewE, hm]; rfl
    clear hg hgb hm he
    by_cases h1 : d < 0
    · have HX : Hid (viewE m d s = 2) := by unfold Hid; rw [HV.out, if_neg (by simp [viewB]; omega)]
      clear HV
      go_enter Tryd.func16, Tryd.ntmps16
      go_wp2_with fail
      refine KC.out.mono ?_
      rintro e w1 ⟨rfl, rfl⟩
      go_wp2
      go_ret
      exact ⟨by rw [HX.out]; rfl, hb0⟩
    · have d1 : decide (d < 0) = false := by simpa using h1
      by_cases h2 : 4 ≤ d
      · have HX : Hid (viewE m d s = 2) := by unfold Hid; rw [HV.out, if_neg (by simp [viewB]; omega)]
        clear HV
        go_enter Tryd.func16, Tryd.ntmps16
        go_wp2_with fail
        refine KC.out.mono ?_
        rintro e w1 ⟨rfl, rfl⟩
        go_wp2
        go_ret
        exact ⟨by rw [HX.out]; rfl, hb0⟩
      · have d2 : decide (4 ≤ d) = false := by simpa using h2
        by_cases h3 : s < 0
        · have HX : Hid (viewE m d s = 2) := by unfold Hid; rw [HV.out, if_neg (by simp [viewB]; omega)]
          clear HV
          go_enter Tryd.func16, Tryd.ntmps16
          go_wp2_with fail
          refine KC.out.mono ?_
          rintro e w1 ⟨rfl, rfl⟩
          go_wp2
          go_ret
          exact ⟨by rw [HX.out]; rfl, hb0⟩
        · have d3 : decide (s < 0) = false := by simpa using h3
          by_cases h4 : 1000000 < s
          · have HX : Hid (viewE m d s = 2) := by unfold Hid; rw [HV.out, if_neg (by simp [viewB]; omega)]
            clear HV
            go_enter Tryd.func16, Tryd.ntmps16
            go_wp2_with fail
            refine KC.out.mono ?_
            rintro e w1 ⟨rfl, rfl⟩
            go_wp2
            go_ret
            exact ⟨by rw [HX.out]; rfl, hb0⟩
          · have d4 : decide (1000000 < s) = false := by simpa using h4
            have HX : Hid (viewE m d s = 0) := by unfold Hid; rw [HV.out, if_pos (by simp [viewB]; omega)]
            clear HV
            go_enter Tryd.func16, Tryd.ntmps16
            go_wp2_with fail
            refine KC.out.mono ?_
            rintro e w1 ⟨rfl, rfl⟩
            go_wp2
            go_ret
            exact ⟨by rw [HX.out, errV_zero]; rfl, hb0⟩

theorem viewE_zero {m d s : Int} (h : viewE m d s = 0) : crewB m = true ∧ viewB d s = true := by
  unfold viewE at h
  split at h
  · rename_i h1; simpa using h1
  · cases h
theorem viewE_two {m d s : Int} (h : viewE m d s ≠ 0) : viewE m d s = 2 := by
  unfold viewE at h ⊢
  split
  · rename_i h1; rw [if_pos h1] at h; exact absurd rfl h
  · rfl
theorem memRF_ok {l : List Int} {m d s : Int} (h : (memRF l m d s).1 = 0) : (planF l).1 = 0 ∧ viewE m d s = 0 ∧ memRF l m d s = (0, -1) ∧ (rightF l s).1 = 0 := by
  unfold memRF at h ⊢
  split at h
  · rename_i h1
    have h : viewE m d s = 0 := h
    refine ⟨h1, h, by rw [if_pos h1, h], ?_⟩
    obtain ⟨_, hv⟩ := viewE_zero h
    simp only [viewB, decide_eq_true_eq] at hv
    rw [rightF, if_pos h1, if_pos (by omega)]
  · rename_i h1; exact absurd h h1
set_option maxHeartbeats 800000 in
theorem memRight_any (ea : Nat → Addr) (a : Option Addr) (n cap : Nat) (l : List Int) (m d s : Int) (w : World) (hg : Glob w ea [2, 4, 5, 7]) (hn : l.length = n) (hr : RowAt w a (encInts l)) (hc : n ≤ 4611686018427387904) :
    Calls Tryd.prog 32 #[.slice a n cap, .agg #[.int .i64 m, .int .i64 d, .int .i64 s]] w fun e w' => ∃ v, e = .returned (.tuple #[.int .i64 (if (memRF l m d s).1 = 0 then whoV l s.toNat else 0), v]) ∧ ErrIs ea w' v (memRF l m d s).1 (memRF l m d s).2 ∧ Below w.heap.size w w' := by
  have hb0 : Below w.heap.size w (w.alloc (.cells #[.int .i64 m, .int .i64 d, .int .i64 s] 42)) := (Below.refl _ _).alloc (Nat.le_refl _) _
  have KP := Lib.hid (fun (W : World) (h : Below w.heap.size w W) => planCheck_any ea a n cap l W ((hg.below h).sub (by simp)) hn (hr.below h) hc)
  have KC := Lib.hid (fun (W : World) (h : Below w.heap.size w W) => memCheck_any ea m d s W ((hg.below h).sub (by simp)))
  have KW := Lib.hid (fun (W : World) (h : Below w.heap.size w W) => who_any ea a n cap l s W ((hg.below h).sub (by simp)) hn (hr.below h) hc)
  by_cases h1 : (planF l).1 = 0
  · have hp := (planF_ok h1).1
    by_cases h2 : viewE m d s = 0
    · have hM : memRF l m d s = (0, -1) := by rw [memRF, if_pos h1, h2]
      have hR : (rightF l s).1 = 0 := (memRF_ok (by rw [hM])).2.2.2
      rw [hp] at KP
      rw [h2, errV_zero] at KC
      rw [whoF, if_pos hR, rightF_zero hR] at KW
      rw [hM]
      clear hg hr hn h1 h2 hp hM hR
      generalize whoV l s.toNat = who at *
      go_enter Tryd.func32, Tryd.ntmps32
      go_wp2_with fail
      refine (KP.out _ hb0).mono ?_
      rintro e w1 ⟨v, rfl, hv, hb1⟩
      obtain rfl : v = .nilIface := hv.nil
      have hv1 := hb0.trans (hb1.mono hb0.size)
      have c0 : w1.cell? ⟨w.heap.size, 0, none⟩ = some (.int .i64 m) := (hb1.cell (p := ⟨w.heap.size, 0, none⟩) (by simp)).trans (by simp)
      have c1 : w1.cell? ⟨w.heap.size, 1, none⟩ = some (.int .i64 d) := (hb1.cell (p := ⟨w.heap.size, 1, none⟩) (by simp)).trans (by simp)
      have c2 : w1.cell? ⟨w.heap.size, 2, none⟩ = some (.int .i64 s) := (hb1.cell (p := ⟨w.heap.size, 2, none⟩) (by simp)).trans (by simp)
      have hz1 : w.heap.size < w1.heap.size := by have := hb1.size; simp at this; omega
      go_wp2_with fail
      refine (KC.out _ hv1).mono ?_
      rintro e w2 ⟨rfl, hb2⟩
      have hv2 := hv1.trans (hb2.mono hv1.size)
      have c2 := (hb2.cell (p := ⟨w.heap.size, 2, none⟩) hz1).trans c2
      go_wp2_with fail
      refine (KW.out _ hv2).mono ?_
      rintro e w3 ⟨v, rfl, hv, hb3⟩
      go_wp2
      go_ret2
      exact ⟨v, rfl, hv, hv2.trans (hb3.mono hv2.size)⟩
    · have hM : memRF l m d s = (2, -1) := by rw [memRF, if_pos h1, viewE_two h2]
      rw [hp] at KP
      rw [viewE_two h2, errV_pos ea (by decide)] at KC
      rw [hM]
      have HP := Lib.hid (errV_pos ea (k := 2) (by decide))
      clear hg hr hn h1 h2 hp hM
      go_enter Tryd.func32, Tryd.ntmps32
      go_wp2_with fail
      refine (KP.out _ hb0).mono ?_
      rintro e w1 ⟨v, rfl, hv, hb1⟩
      obtain rfl : v = .nilIface := hv.nil
      have hv1 := hb0.trans (hb1.mono hb0.size)
      have c0 : w1.cell? ⟨w.heap.size, 0, none⟩ = some (.int .i64 m) := (hb1.cell (p := ⟨w.heap.size, 0, none⟩) (by simp)).trans (by simp)
      have c1 : w1.cell? ⟨w.heap.size, 1, none⟩ = some (.int .i64 d) := (hb1.cell (p := ⟨w.heap.size, 1, none⟩) (by simp)).trans (by simp)
      have c2 : w1.cell? ⟨w.heap.size, 2, none⟩ = some (.int .i64 s) := (hb1.cell (p := ⟨w.heap.size, 2, none⟩) (by simp)).trans (by simp)
      go_wp2_with fail
      refine (KC.out _ hv1).mono ?_
      rintro e w2 ⟨rfl, hb2⟩
      go_wp2
      go_ret2
      exact ⟨_, rfl, by rw [← HP.out]; exact Or.inl ⟨rfl, rfl⟩, hv1.trans (hb2.mono hv1.size)⟩
  · have hM : memRF l m d s = planF l := by rw [memRF, if_neg h1]
    rw [hM, if_neg h1]
    have H1 := Lib.hid h1
    clear hg hr hn h1 hM
    go_enter Tryd.func32, Tryd.ntmps32
    go_wp2_with fail
    refine (KP.out _ hb0).mono ?_
    rintro e w1 ⟨v, rfl, hv, hb1⟩
    obtain ⟨vt, vx, rfl⟩ := hv.held H1.out
    go_wp2
    go_ret2
    exact ⟨_, rfl, hv, hb0.trans (hb1.mono hb0.size)⟩
end Go.Proofs.YtbfocagicagehaaDoor
