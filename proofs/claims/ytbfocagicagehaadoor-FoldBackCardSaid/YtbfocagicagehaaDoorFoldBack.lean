/- FoldBack: the law's walk. -/
import Derived.Test.YtbfocagicagehaaDoorFoldFact
import Derived.Test.YtbfocagicagehaaDoorSameInts
import Derived.RegionTactic
namespace Go.Proofs.YtbfocagicagehaaDoor
open Go.RowKit

theorem Blk.other {W : World} {g : Nat} {l : List Int} (h : Blk W g l) {c : Nat} (hc : g ≠ c) (i : Nat) (v : Value) : Blk (W.setCell ⟨c, i, none⟩ v) g l := by
  obtain ⟨cur, h1, h2⟩ := h
  exact ⟨cur, (Below.heap_setCell _ _ _ _ (by simpa using hc)).trans h1, h2⟩
theorem last_set (es : List Ent) (k : Nat) (hk : k < es.length) (h : es[k].heard = true) : lastF (es.take (k + 1)) = (lastF (es.take k)).set (es[k].frm.toNat - 1) es[k].value := by
  rw [lastF_snoc es k hk, lastStep, if_pos h]
  congr 1
  omega
theorem last_same (es : List Ent) (k : Nat) (hk : k < es.length) (h : es[k].heard = false) : lastF (es.take (k + 1)) = lastF (es.take k) := by
  rw [lastF_snoc es k hk, lastStep, if_neg (by simp [h])]

set_option maxRecDepth 100000 in
theorem foldBack_long (ea : Nat → Addr) (a : Option Addr) (n cap : Nat) (es : List Ent) (i : Int) (w : World) (hg : Glob w ea [1, 2, 3, 4, 7, 10]) (hT : TxtEnv w) (hn : es.length = n) (hr : RowAt w a (encEnts es)) (hm : n ≤ 4611686018427387904)
    (h : 60 < n ∨ i < 0 ∨ (n : Int) < i ∨ (chk es).1 ≠ 0) :
    Calls Tryd.prog 3 #[.slice a n cap, .int .i64 i] w fun e w' => e = .returned (.bool true) ∧ Below w.heap.size w w' := by
  have K0 := Lib.hid (folded_any ea w hg hT)
  by_cases h1 : 60 < n
  · clear hg hT h
    go_enter Tryd.func3, Tryd.ntmps3
    go_wp2_with fail
    refine K0.out.mono ?_
    rintro e w1 ⟨rfl, hb1⟩
    go_wp2
    go_ret
    exact ⟨rfl, hb1⟩
  · by_cases h2 : i < 0
    · clear hg hT h
      go_enter Tryd.func3, Tryd.ntmps3
      go_wp2_with fail
      refine K0.out.mono ?_
      rintro e w1 ⟨rfl, hb1⟩
      go_wp2
      go_ret
      exact ⟨rfl, hb1⟩
    · by_cases h3 : (n : Int) < i
      · clear hg hT h
        go_enter Tryd.func3, Tryd.ntmps3
        go_wp2_with fail
        refine K0.out.mono ?_
        rintro e w1 ⟨rfl, hb1⟩
        go_wp2
        go_ret
        exact ⟨rfl, hb1⟩
      · have h4 : (chk es).1 ≠ 0 := by omega
        have KC := Lib.hid (fun (W : World) (hb : Below w.heap.size w W) => check_any ea a n cap es W ((hg.below hb).sub (by simp)) hn (hr.below hb) hm)
        have H4 := Lib.hid h4
        have d1 : decide ((60 : Int) < (n : Int)) = false := by simp; omega
        have d2 : decide (i < 0) = false := by simpa using h2
        have d3 : decide ((n : Int) < i) = false := by simpa using h3
        clear hg hT h h4 hr hn
        go_enter Tryd.func3, Tryd.ntmps3
        go_wp2_with fail
        refine K0.out.mono ?_
        rintro e w1 ⟨rfl, hb1⟩
        go_wp2_with fail
        refine (KC.out _ hb1).mono ?_
        rintro e w2 ⟨v, rfl, hv, hb2⟩
        obtain ⟨vt, vx, rfl⟩ := hv.held H4.out
        go_wp2
        go_ret
        exact ⟨rfl, hb1.trans (hb2.mono hb1.size)⟩

set_option maxRecDepth 400000 in
set_option maxHeartbeats 3200000 in
theorem foldBack_law (ea : Nat → Addr) (a : Option Addr) (n cap c : Nat) (es : List Ent) (w : World) (hg : Glob w ea [1, 2, 3, 4, 7, 10]) (hT : TxtEnv w) (hn : es.length = n) (hr : RowAt w a (encEnts es)) (hm : n ≤ cap)
    (h60 : n ≤ 60) (hcn : c ≤ n) (h : (chk es).1 = 0) :
    Calls Tryd.prog 3 #[.slice a n cap, .int .i64 c] w fun e w' => e = .returned (.bool true) ∧ Below w.heap.size w w' := by
  have K0 := Lib.hid (folded_any ea w hg hT)
  have KC := Lib.hid (fun (W : World) (hb : Below w.heap.size w W) => check_ok ea a n cap es W ((hg.below hb).sub (by simp)) hn (hr.below hb) (by omega) h)
  have KX := Lib.hid (fun (W : World) (hb : Below w.heap.size w W) => histText_any ea a n cap es W ((hg.below hb).sub (by simp)) (hT.below hb) hn (hr.below hb) (by omega) h)
  have hl := histT_len h
  have KR := Lib.hid (fun (W : World) (hb : Below w.heap.size w W) => foldRead_any ea (histT es) W (by omega) ((hg.below hb).sub (by simp)) (hT.below hb))
  rw [hist_read h] at KR
  have KL := Lib.hid (fun (W : World) (hb : Below w.heap.size w W) => last_any ea a n cap es W ((hg.below hb).sub (by simp)) hn (hr.below hb) (by omega) h)
  have KL2 := Lib.hid (fun (W : World) (hb : Below w.heap.size w W) => last_any ea a c cap (es.take c) W ((hg.below hb).sub (by simp)) (by rw [List.length_take]; omega) (by rw [encEnts_take]; exact (hr.below hb).take _) (by omega) (chk_pre es c h))
  have KT := Lib.hid (fun (W : World) (hb : Below w.heap.size w W) => total_any ea a n cap es W ((hg.below hb).sub (by simp)) hn (hr.below hb) (by omega) h)
  have HS := Lib.hid (fun k => sum_take_bound h k)
  have HF := Lib.hid (fun k (hk : k < es.length) => chk_frm h k hk)
  have HLL := Lib.hid (lastF_length es)
  have HSet := Lib.hid (fun k hk h => last_set es k hk h)
  have HSame := Lib.hid (fun k hk h => last_same es k hk h)
  have HTn : Hid (es.take n = es) := by unfold Hid; rw [← hn, List.take_length]
  have HN := Lib.hid hn
  have HR := Lib.hid hr
  have HL16 := Lib.hid (fun k => lastF_length (es.take k))
  have d1 : decide ((60 : Int) < (n : Int)) = false := by simp; omega
  have d3 : decide (n < c) = false := by simp; omega
  clear hg hT h hl hn hr
  generalize histT es = tx at *
  go_enter Tryd.func3, Tryd.ntmps3
  go_wp2_with fail
  refine K0.out.mono ?_
  rintro e w1 ⟨rfl, hb1⟩
  go_wp2_with fail
  refine (KC.out _ hb1).mono ?_
  rintro e w2 ⟨rfl, hb2⟩
  have hv2 := hb1.trans (hb2.mono hb1.size)
  go_wp2_with fail
  refine (KX.out _ hv2).mono ?_
  rintro e w3 ⟨rfl, hb3⟩
  have hv3 := hv2.trans (hb3.mono hv2.size)
  go_wp2_with fail
  refine (KR.out _ hv3).mono ?_
  rintro e w4 ⟨v, ar, nr, cr, rfl, hv, hrr, hnr, hcr, hb4⟩
  obtain rfl : v = .nilIface := hv.nil
  have hrr : RowAt w4 ar (encEnts es) := hrr
  have hnr : es.length = nr := hnr
  have hv4 := hv3.trans (hb4.mono hv3.size)
  go_wp2_with fail
  refine (sameEnts_any _ _ _ _ _ _ es es _ hnr hrr HN.out (HR.out.below hv4) (by have := HN.out; omega)).mono ?_
  rintro e w5 ⟨rfl, hb5⟩
  rw [decide_eq_true (rfl : es = es)]
  have hv5 := hv4.trans (hb5.mono hv4.size)
  clear hrr hnr hv hcr hb1 hb2 hb3 hb4 hb5 hv2 hv3 hv4 K0 KC KX KR
  go_wp2_with fail
  refine (KL.out _ hv5).mono ?_
  rintro e w6 ⟨g, co, rfl, hgw, hco, hB, hb6⟩
  have hv6 := hv5.trans (hb6.mono hv5.size)
  go_wp2_with fail
  refine (KL2.out _ hv6).mono ?_
  rintro e w7 ⟨g2, co2, rfl, hgw2, hco2, hB2, hb7⟩
  have hv7 := hv6.trans (hb7.mono hv6.size)
  have hne : g ≠ g2 := by have := hB.lt; omega
  have hB := hB.kept hb7
  go_wp2_with fail
  refine (KT.out _ hv7).mono ?_
  rintro e w8 ⟨rfl, hb8⟩
  have hv8 := hv7.trans (hb8.mono hv7.size)
  have hB := hB.kept hb8
  have hB2 := hB2.kept hb8
  have hge := hv5.size
  have hge2 := hv6.size
  clear hb6 hb7 hb8 hv5 hv6 hv7 KL KL2 KT
  go_wp2
  go_loopw [16] (fun i wr => ∃ k : Nat, c ≤ k ∧ k ≤ n ∧ i = .int .i64 k ∧ Blk wr g (lastF es) ∧ Blk wr g2 (lastF (es.take k)) ∧ Below w.heap.size w wr) (fun i _ => n - (intOf i).toNat)
  case atStart => exact ⟨c, Nat.le_refl _, hcn, rfl, hB, hB2, hv8⟩
  case round =>
    clear hB hB2 hv8
    obtain ⟨k, hck, hk, rfl, hB, hB2, hb⟩ := hrel
    by_cases hlt : k < n
    · have hk1 : k < es.length := by have := HN.out; omega
      obtain ⟨b, off, rfl, hbl, c0, c1, c2, c3⟩ := (HR.out.below hb).ent k hk1
      have hfk := HF.out k hk1
      have hS1 := HSet.out k hk1
      have hS2 := HSame.out k hk1
      have hlen := HL16.out k
      have hi0 : (0 : Int) ≤ (k : Int) := by omega
      have hi1 : (k : Int) < (n : Int) := by omega
      generalize es[k] = e at *
      cases hh : e.heard
      · have HX := Lib.hid (hS2 hh)
        rw [hh] at c2
        clear hS1 hS2 hh
        go_wp2
        go_roundw
        case rel => exact ⟨k + 1, by omega, by omega, by go_num, hB, by rw [HX.out]; exact hB2, hb⟩
        case measure => simp [intOf]; omega
      · have HX := Lib.hid (hS1 hh)
        rw [hh] at c2
        obtain ⟨old, hcl⟩ : ∃ old, wr.cell? ⟨g2, e.frm.toNat - 1, none⟩ = some (.int .i64 old) := ⟨_, hB2.cell (e.frm.toNat - 1) (by omega)⟩
        have hfz := hB2.frozen (e.frm.toNat - 1)
        clear hS1 hS2 hh
        go_wp2
        go_region
        all_goals
          go_wp2
          go_roundw
          case rel => exact ⟨k + 1, by omega, by omega, by go_num, (hB.other hne _ _).kept ((Below.refl _ _).drew), by rw [HX.out]; exact (hB2.set _ _).kept ((Below.refl _ _).drew), (hb.setCell (by show w.heap.size ≤ g2; omega) _).drew⟩
          case measure => simp [intOf]; omega
    · obtain rfl : k = n := by omega
      rw [HTn.out] at hB2
      have hlen := HLL.out
      have KI := Lib.hid (sameInts_any (some ⟨g, 0, none⟩) (some ⟨g2, 0, none⟩) 16 co 16 co2 (lastF es) (lastF es) wr hlen hB.row hlen hB2.row (by omega))
      rw [decide_eq_true (rfl : lastF es = lastF es)] at KI
      have HC := Lib.hid (fun j (hj : j < 16) => hB.cell j (by omega))
      have HSn := Lib.hid (fun j (hj : j < 16) => sum_snoc (lastF es) j (by omega))
      have HTk : Hid ((lastF es).take 16 = lastF es) := by unfold Hid; rw [List.take_of_length_le (by omega)]
      clear hB hB2
      go_wp2
      go_loop [17, 18] (fun t i => ∃ j : Nat, j ≤ 16 ∧ i = .int .i64 j ∧ t = .int .i64 ((lastF es).take j).sum) (fun _ i => 16 - (intOf i).toNat)
      case atStart => exact ⟨0, by omega, rfl, rfl⟩
      case round =>
        obtain ⟨j, hj, rfl, rfl⟩ := hrel
        by_cases hlt : j < 16
        · have hs1 := HS.out j
          have hs2 := HS.out (j + 1)
          have HQ := Lib.hid (HSn.out j hlt)
          have cj := HC.out j hlt
          rw [HQ.out] at hs2
          have hi0 : (0 : Int) ≤ (j : Int) := by omega
          have hi1 : (j : Int) < 16 := by omega
          generalize (lastF es)[j] = v at *
          go_wp2
          go_round
          case rel => exact ⟨j + 1, by omega, by go_num, by rw [HQ.out]⟩
          case measure => simp [intOf]; omega
        · obtain rfl : j = 16 := by omega
          rw [HTk.out]
          go_wp2_with fail
          refine KI.out.mono ?_
          rintro e w9 ⟨rfl, hb9⟩
          go_wp2
          go_ret
          exact ⟨rfl, hb.trans (hb9.mono hb.size)⟩

theorem walk_FoldBack (ea : Nat → Addr) (a : Option Addr) (n cap : Nat) (es : List Ent) (i : Int) (w : World) (hg : Glob w ea [1, 2, 3, 4, 7, 10]) (hT : TxtEnv w) (hn : es.length = n) (hr : RowAt w a (encEnts es)) (hc : n ≤ cap) (hm : n ≤ 4611686018427387904)
    (_hi : -9223372036854775808 ≤ i ∧ i ≤ 9223372036854775807) :
    Calls Tryd.prog 3 #[.slice a n cap, .int .i64 i] w fun e w' => e = .returned (.bool true) ∧ Below w.heap.size w w' := by
  by_cases h : 60 < n ∨ i < 0 ∨ (n : Int) < i ∨ (chk es).1 ≠ 0
  · exact foldBack_long ea a n cap es i w hg hT hn hr hm h
  · obtain ⟨c, rfl⟩ : ∃ c : Nat, i = c := ⟨i.toNat, by omega⟩
    exact foldBack_law ea a n cap c es w hg hT hn hr hc (by omega) (by omega) (by omega)
end Go.Proofs.YtbfocagicagehaaDoor
