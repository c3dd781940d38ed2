/- agreed, of the laws. -/
import Derived.Test.YtlicmaokclgodaaGreatDoorClusTell
import Derived.Test.YtlicmaokclgodaaGreatDoorClusIter
import Derived.Test.YtlicmaokclgodaaGreatDoorClusBack
import Derived.Test.YtlicmaokclgodaaGreatDoorRefCrew
import Derived.Deep.RegionHeld3
namespace Go.Proofs.YtlicmaokclgodaaGreatDoor
open Go.RowKit Go.Maps

theorem run_view_neq (W : World) (a b c : Int) : (binOp .neq 41 (.agg #[.int .i64 a, .int .i64 b, .int .i64 c]) (.agg #[.int .i64 a, .int .i64 b, .int .i64 c])).run Tryz.prog W = .ok (.bool false) W := by
  have h1 : (a == a) = true := by simp
  have h2 : (b == b) = true := by simp
  have h3 : (c == c) = true := by simp
  go_simp
/-- Who is active, as a list. -/
theorem mem_crew {c : CP} (hI : InvP c) {i : Int} (h : i ∈ listTo (c.crewN : Nat) 16) : ∃ x, c.f i = some x ∧ x.st = 2 := by
  have hn := (planF_ok hI.plan).2.2.2
  rw [CP.crewN, mem_nodesOf (fun n hm => hn n (List.mem_filter.1 hm).1)] at h
  have h2 := (List.mem_filter.1 h).2
  cases hf : c.f i with
  | none => rw [hf] at h2; simp [actB] at h2
  | some x => rw [hf] at h2; exact ⟨x, rfl, by simpa [actB] using h2⟩
theorem node_wfO {n : Int} (h : nodeB n = true) : (Lit.int .i64 n).wf = true := by
  simp only [nodeB, decide_eq_true_eq] at h
  have h1 : IntKind.i64.min = -9223372036854775808 := by decide +kernel
  have h2 : IntKind.i64.max = 9223372036854775807 := by decide +kernel
  simp only [Lit.wf, Bool.and_eq_true, decide_eq_true_eq, h1, h2]
  omega
/-- The view and the history that all who are active have. -/
theorem one_view {c : CP} (hI : InvP c) (hA : Agree c.f) : ∃ (M D : Int) (HH : List Ent), HH.length = c.time ∧ ∀ i ∈ listTo (c.crewN : Nat) 16, (Lit.int .i64 i).wf = true ∧ ∃ x, c.on i = (x, 0) ∧ x.m = M ∧ x.d = D ∧ x.s = c.time ∧ x.h = HH := by
  by_cases he : ∃ i, i ∈ listTo (c.crewN : Nat) 16
  · obtain ⟨i, hi⟩ := he
    obtain ⟨x, hx, hxa⟩ := mem_crew hI hi
    have hN := (hI.node i x hx).on hxa
    refine ⟨x.m, x.d, x.h, hN.2.2.2.2.1, fun j hj => ?_⟩
    obtain ⟨y, hy, hya⟩ := mem_crew hI hj
    have hNy := hI.node j y hy
    obtain ⟨e1, e2, e3, e4⟩ := hA j i y x hy hx hya hxa
    exact ⟨node_wfO hNy.node, y, by rw [CP.on, hy]; simp only [hya, if_true], e1, e2, (hNy.on hya).2.2.2.1, e4⟩
  · exact ⟨0, 0, List.replicate c.time ⟨0, 0, false, 0⟩, by simp, fun i hi => absurd ⟨i, hi⟩ he⟩

theorem cTime_cell (cb : Nat) (t : Int) (w : World) (h : w.cell? ⟨cb, 1, none⟩ = some (.int .i64 t)) :
    Calls Tryz.prog 12 #[.pointer (some ⟨cb, 0, none⟩)] w fun e w' => e = .returned (.int .i64 t) ∧ w = w' := by
  go_enter Tryz.func12, Tryz.ntmps12
  go_wp2
  go_ret
  exact ⟨rfl, rfl⟩
set_option maxRecDepth 200000 in
set_option maxHeartbeats 6400000 in
theorem agreed_any (ea : Nat → Addr) (L : CL) (c : CP) (w : World) (hg : Glob w ea [4, 11]) (h : ClusAt w L c) (hI : InvP c) (hA : Agree c.f) :
    Calls Tryz.prog 11 #[.pointer (some ⟨L.cb, 0, none⟩)] w fun e w' => e = .returned (.bool true) ∧ Below w.heap.size w w' := by
  obtain ⟨M, D, HH, hhl, hone⟩ := one_view hI hA
  have ht := hI.time
  have KC := Lib.hid (cCrew_any ea L c w (hg.sub (by simp)) h hI.dom (planF_ok hI.plan).2.2.2)
  have KV : Hid (∀ (W : World) (j : Int), Below w.heap.size w W → j ∈ listTo (c.crewN : Nat) 16 → Calls Tryz.prog 15 #[.pointer (some ⟨L.cb, 0, none⟩), .int .i64 j] W fun e w' => e = .returned (.tuple #[.agg #[.int .i64 M, .int .i64 D, .int .i64 c.time], .nilIface]) ∧ Below W.heap.size W w') := by
    intro W j hb hj
    obtain ⟨hw, x, hx, e1, e2, e3, e4⟩ := hone j hj
    have := cView_any ea L c j W (hg.below hb) (h.below hb) hw
    rw [hx] at this
    dsimp only at this
    rw [e1, e2, e3, errV_zero] at this
    exact this
  have KH : Hid (∀ (W : World) (j : Int), Below w.heap.size w W → j ∈ listTo (c.crewN : Nat) 16 → Calls Tryz.prog 19 #[.pointer (some ⟨L.cb, 0, none⟩), .int .i64 j] W fun e w' => ∃ a cap, e = .returned (.tuple #[.slice a c.time cap, .nilIface]) ∧ RowAt w' a (encEnts HH) ∧ Below W.heap.size W w') := by
    intro W j hb hj
    obtain ⟨hw, x, hx, e1, e2, e3, e4⟩ := hone j hj
    have := cHist_any ea L c j W (hg.below hb) (h.below hb) hw (by rw [hx]; dsimp only; rw [e4]; omega)
    rw [hx] at this
    dsimp only at this
    rw [e4, hhl, errV_zero] at this
    exact this.mono fun e w' ⟨a, cap, h1, h2, _, h4⟩ => ⟨a, cap, h1, h2, h4⟩
  have KT := Lib.hid (fun (W : World) (hc : W.cell? ⟨L.cb, 1, none⟩ = some (.int .i64 (c.time : Int))) => cTime_cell L.cb c.time W hc)
  have hcl := h.lt.1
  have hct := h.cells.2.1
  have hq := fun W => run_view_neq W M D c.time
  have HHL := Lib.hid hhl
  have hlen := listTo_length (c.crewN : Nat) 16
  clear hone h hI hA hg hhl
  go_enter Tryz.func11, Tryz.ntmps11
  go_wp2_with fail
  refine KC.out.mono ?_
  rintro e w1 ⟨rfl, hb1⟩
  generalize ((c.crewN : Nat) : Int) = cr at *
  have KL := Lib.hid (listOf_any cr w1)
  go_wp2_with fail
  refine KL.out.mono ?_
  rintro e w2 ⟨ao, n, co, rfl, hrow, hn, hco, hb2⟩
  generalize listTo cr 16 = ls at *
  have hv2 : Below w.heap.size w w2 := onto hb1 hb2
  have HN := Lib.hid hn
  have HR := Lib.hid hrow
  have hn16 : n ≤ 16 := by omega
  clear hn hrow hb1 hb2 KC KL
  go_wp2
  go_loopw [4] (fun i wr => ∃ k : Nat, k ≤ n ∧ i = .int .i64 k ∧ Below w.heap.size w wr ∧ Below w2.heap.size w2 wr) (fun i _ => n - (intOf i).toNat)
  case atStart => exact ⟨0, Nat.zero_le _, rfl, hv2, Below.refl _ _⟩
  case round =>
    clear hv2
    obtain ⟨k, hk, rfl, hv, hv2⟩ := hrel
    by_cases hlt : k < n
    · have hkl : k < ls.length := by have := HN.out; omega
      have h0l : 0 < ls.length := by omega
      have hrr := HR.out.below hv2
      obtain ⟨b, off, rfl, hbl, ck⟩ := hrr.int k hkl
      have c0 : wr.cell? ⟨b, off, none⟩ = some (.int .i64 ls[0]) := hrr.cell (i := 0) (v := .int .i64 ls[0]) (by simp [encInts, h0l])
      have hjk := List.getElem_mem hkl
      have hj0 := List.getElem_mem h0l
      have hi0 : (0 : Int) ≤ (k : Int) := by omega
      have hi1 : (k : Int) < (n : Int) := by omega
      have hn0 : 0 < n := by omega
      generalize ls[k] = jk at *
      generalize ls[0] = j0 at *
      have HV := Lib.hid hv
      clear hrr hkl h0l
      go_wp2_with fail
      refine (KV.out _ jk HV.out hjk).mono ?_
      rintro e w3 ⟨rfl, hb3⟩
      have hv3 := onto HV.out hb3
      have hal3 : Below w3.heap.size w3 (w3.alloc (.cells #[.int .i64 M, .int .i64 D, .int .i64 c.time] 41)) := (Below.refl _ _).alloc (Nat.le_refl _) _
      have hbx : Below w2.heap.size w2 (w3.alloc (.cells #[.int .i64 M, .int .i64 D, .int .i64 c.time] 41)) := hv2.trans ((hb3.trans (hal3.mono hb3.size)).mono hv2.size)
      have ck3 := (hb3.cell (p := ⟨b, off + k, none⟩) hbl).trans ck
      have c03 := (hb3.cell (p := ⟨b, off, none⟩) hbl).trans c0
      have hbl3 : b < w3.heap.size := Nat.lt_of_lt_of_le hbl hb3.size
      have ck4 := (hal3.cell (p := ⟨b, off + k, none⟩) hbl3).trans ck3
      have K4 := Lib.hid (KH.out _ jk (onto hv3 hal3) hjk)
      clear ck c0 ck3
      go_wp2_with fail
      refine K4.out.mono ?_
      rintro e w4 ⟨a1, cp1, rfl, hr1, hb4⟩
      have hv4 := onto (onto hv3 hal3) hb4
      have hbx4 : Below w2.heap.size w2 w4 := hbx.trans (hb4.mono hbx.size)
      have hbl4 : b < (w3.alloc (.cells #[.int .i64 M, .int .i64 D, .int .i64 c.time] 41)).heap.size := by simp; omega
      have c04 := (hb4.cell (p := ⟨b, off, none⟩) hbl4).trans ((hal3.cell (p := ⟨b, off, none⟩) hbl3).trans c03)
      have BV := (Blok.new w3 41 #[.int .i64 M, .int .i64 D, .int .i64 c.time]).kept hb4
      have hbl4 : b < w4.heap.size := Nat.lt_of_lt_of_le hbl4 hb4.size
      generalize w3.heap.size = v1 at *
      have HV4 := Lib.hid hv4
      have K5 := Lib.hid (KV.out _ j0 hv4 hj0)
      clear ck4 c03 hb3 hb4 hal3 hv3 hbl3 hv4 hbx K4 hv2
      go_wp2_with fail
      refine K5.out.mono ?_
      rintro e w5 ⟨rfl, hb5⟩
      have hv5 := onto HV4.out hb5
      have hal5 : Below w5.heap.size w5 (w5.alloc (.cells #[.int .i64 M, .int .i64 D, .int .i64 c.time] 41)) := (Below.refl _ _).alloc (Nat.le_refl _) _
      have hbx5 : Below w2.heap.size w2 (w5.alloc (.cells #[.int .i64 M, .int .i64 D, .int .i64 c.time] 41)) := hbx4.trans ((hb5.trans (hal5.mono hb5.size)).mono hbx4.size)
      have hbl5 : b < w5.heap.size := Nat.lt_of_lt_of_le hbl4 hb5.size
      have c05 := (hal5.cell (p := ⟨b, off, none⟩) hbl5).trans ((hb5.cell (p := ⟨b, off, none⟩) hbl4).trans c04)
      have K6 := Lib.hid (KH.out _ j0 (onto hv5 hal5) hj0)
      have BV5 := (BV.kept hb5).kept hal5
      have BW := Blok.new w5 41 #[.int .i64 M, .int .i64 D, .int .i64 c.time]
      have hr15 := (hr1.below hb5).below hal5
      clear c04 hbl4 hbx4 BV hr1 K5
      go_wp2_with fail
      refine K6.out.mono ?_
      rintro e w6 ⟨a2, cp2, rfl, hr2, hb6⟩
      have hv6 := onto (onto hv5 hal5) hb6
      have hbx6 : Below w2.heap.size w2 w6 := hbx5.trans (hb6.mono hbx5.size)
      have hr16 := hr15.below hb6
      have BV6 := BV5.kept hb6
      have BW6 := BW.kept hb6
      generalize w5.heap.size = v2 at *
      have hdw := below_drewN (Below.refl w6.heap.size w6) 1
      have KS := Lib.hid (sameEnts_any a1 a2 c.time cp1 c.time cp2 HH HH w6.drew HHL.out (hr16.below hdw) HHL.out (hr2.below hdw) (by omega))
      rw [decide_eq_true rfl] at KS
      have x0 : w6.drew.cell? ⟨v1, 0, none⟩ = some (.int .i64 M) := BV6.cell 0 rfl
      have x1 : w6.drew.cell? ⟨v1, 1, none⟩ = some (.int .i64 D) := BV6.cell 1 rfl
      have x2 : w6.drew.cell? ⟨v1, 2, none⟩ = some (.int .i64 c.time) := BV6.cell 2 rfl
      have y0 : w6.drew.cell? ⟨v2, 0, none⟩ = some (.int .i64 M) := BW6.cell 0 rfl
      have y1 : w6.drew.cell? ⟨v2, 1, none⟩ = some (.int .i64 D) := BW6.cell 1 rfl
      have y2 : w6.drew.cell? ⟨v2, 2, none⟩ = some (.int .i64 c.time) := BW6.cell 2 rfl
      have z1 : w6.drew.cell? ⟨L.cb, 1, none⟩ = some (.int .i64 c.time) := (hv6.cell (p := ⟨L.cb, 1, none⟩) hcl).trans hct
      have lv1 := BV6.lt
      have lv2 := BW6.lt
      have lcb : L.cb < w6.heap.size := Nat.lt_of_lt_of_le hcl hv6.size
      have HV6 := Lib.hid hv6
      have HX6 := Lib.hid hbx6
      clear c05 hbl5 hbx5 BV5 BW hr15 hr16 hr2 hv5 hb5 hal5 hb6 K6 BV6 BW6 hdw hv6 hbx6
      go_wp2
      go_region_held3 (fun w' => w'.cell? ⟨v1, 0, none⟩ = some (.int .i64 M) ∧ w'.cell? ⟨v1, 1, none⟩ = some (.int .i64 D) ∧ w'.cell? ⟨v1, 2, none⟩ = some (.int .i64 c.time) ∧ w'.cell? ⟨v2, 0, none⟩ = some (.int .i64 M) ∧ w'.cell? ⟨v2, 1, none⟩ = some (.int .i64 D) ∧ w'.cell? ⟨v2, 2, none⟩ = some (.int .i64 c.time) ∧ w'.cell? ⟨L.cb, 1, none⟩ = some (.int .i64 c.time)) (go_keep)
        (first
          | ((go_at_call 34; (with_reducible refine KS.out.mono ?_); rintro e w7 ⟨rfl, hb7⟩; have d0 := (hb7.cell (p := ⟨v1, 0, none⟩) lv1).trans x0; have d1 := (hb7.cell (p := ⟨v1, 1, none⟩) lv1).trans x1; have d2 := (hb7.cell (p := ⟨v1, 2, none⟩) lv1).trans x2; have d3 := (hb7.cell (p := ⟨v2, 0, none⟩) lv2).trans y0; have d4 := (hb7.cell (p := ⟨v2, 1, none⟩) lv2).trans y1; have d5 := (hb7.cell (p := ⟨v2, 2, none⟩) lv2).trans y2; have d6 := (hb7.cell (p := ⟨L.cb, 1, none⟩) lcb).trans z1))
          | ((go_at_call 12; (with_reducible refine (KT.out _ (by assumption)).mono ?_); rintro e w' ⟨rfl, rfl⟩)))
      have hb67 : Below w6.heap.size w6 w7 := (below_drewN (Below.refl w6.heap.size w6) 1).trans (hb7.mono (by simp))
      have HV7 := Lib.hid (onto HV6.out hb67)
      have HX7 := Lib.hid (HX6.out.trans (hb67.mono HX6.out.size))
      clear hb67 hb7 d0 d1 d2 d3 d4 d5 d6 x0 x1 x2 y0 y1 y2 z1
      go_wp2
      go_roundw
      case rel => exact ⟨k + 1, by omega, by go_num, HV7.out, HX7.out⟩
      case measure => simp [intOf]; omega
    · go_wp2
      go_ret
      exact ⟨rfl, hv⟩
end Go.Proofs.YtlicmaokclgodaaGreatDoor
