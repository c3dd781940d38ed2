/- the reference's SinceOf and JoinOf. -/
import Derived.Test.YtmikeblbfmfimaaDoorRefHist
import Derived.Test.YtmikeblbfmfimaaDoorSinceAny
import Derived.RegionTactic
namespace Go.Proofs.YtmikeblbfmfimaaDoor
open Go.RowKit

theorem RowAt.set2 {w : World} {a : Option Addr} {cs : List Value} {B : Nat} (h : RowAt w a cs) (hne : ∀ b off, a = some ⟨b, off, none⟩ → b ≠ B) (x y : Value) : RowAt ((w.setCell ⟨B, 0, none⟩ x).setCell ⟨B, 1, none⟩ y) a cs := by
  rcases h with h | ⟨b, off, rfl, hlt, hc⟩
  · exact Or.inl h
  · have hn := hne b off rfl
    refine Or.inr ⟨b, off, rfl, by simpa using hlt, fun i v hv => ?_⟩
    exact (World.cell?_setCell_other _ _ _ _ (fun e => hn (congrArg Addr.block e).symm)).trans ((World.cell?_setCell_other _ _ _ _ (fun e => hn (congrArg Addr.block e).symm)).trans (hc i v hv))
theorem RowAt.drewN {w : World} {a : Option Addr} {cs : List Value} (h : RowAt w a cs) (n : Nat) : RowAt (w.drewN n) a cs := h.below (below_drewN (Below.refl _ _) n)

set_option maxRecDepth 100000 in
set_option maxHeartbeats 800000 in
theorem sinceOf_chk (a : Option Addr) (n cap : Nat) (es : List Ent) (hv most : Int) (w : World) (hn : es.length = n) (hr : RowAt w a (encEnts es)) (hm : n ≤ 4611686018427387904) (h0 : (chk es).1 ≠ 0) :
    Calls Tryd.prog 42 #[.slice a n cap, .int .i64 hv, .int .i64 most] w fun e w' => e = .returned (.tuple #[.slice none 0 0, .agg #[.int .i64 (chk es).1, .int .i64 (chk es).2]]) ∧ Below w.heap.size w w' := by
  have hb0 : Below w.heap.size w (w.alloc (.cells #[.int .i64 0, .int .i64 0] 39)) := (Below.refl _ _).alloc (Nat.le_refl _) _
  have C := Lib.hid (histFault_any a n cap es _ hn (hr.below hb0) hm)
  have hp : (0 : Int) < ((chk es).1 : Int) := by omega
  have hz : (((chk es).1 : Int) == 0) = false := by simp; omega
  generalize ((chk es).1 : Int) = c at *
  generalize (chk es).2 = pl at *
  clear hb0 h0
  go_enter Tryd.func42, Tryd.ntmps42
  go_wp2_with fail
  refine C.out.mono ?_
  rintro e w1 ⟨rfl, hb⟩
  obtain ⟨c0, c1, f0, f1, z1, hw1⟩ := own2 hb
  obtain ⟨R0, R1⟩ := res2 z1 c0 c1
  go_wp2
  go_region
  go_wp2
  refine bodyPost_ret (v := .tuple #[.slice none 0 0, .agg #[.int .i64 c, .int .i64 pl]]) (by simp [results, Tryd.results42, go_sem, R0, R1]) rfl ?_
  exact ⟨rfl, below_drewN (((hw1.setCell (by simp) _).setCell (by simp) _).alloc (by simpa using hw1.size) _) 1⟩

set_option maxRecDepth 100000 in
set_option maxHeartbeats 1600000 in
theorem sinceOf_bound (a : Option Addr) (n cap : Nat) (es : List Ent) (hv most : Int) (w : World) (hn : es.length = n) (hr : RowAt w a (encEnts es)) (hm : n ≤ 4611686018427387904) (h0 : (chk es).1 = 0) (h : hv < 0 ∨ most < 1) :
    Calls Tryd.prog 42 #[.slice a n cap, .int .i64 hv, .int .i64 most] w fun e w' => e = .returned (.tuple #[.slice none 0 0, .agg #[.int .i64 2, .int .i64 (-1)]]) ∧ Below w.heap.size w w' := by
  have hb0 : Below w.heap.size w (w.alloc (.cells #[.int .i64 0, .int .i64 0] 39)) := (Below.refl _ _).alloc (Nat.le_refl _) _
  have C := Lib.hid (histFault_any a n cap es _ hn (hr.below hb0) hm)
  rw [chk_zero h0] at C
  simp only [Int.cast_ofNat_Int] at C
  clear hb0 h0
  by_cases hlo : hv < 0
  all_goals
    go_enter Tryd.func42, Tryd.ntmps42
    go_wp2_with fail
    refine C.out.mono ?_
    rintro e w1 ⟨rfl, hb⟩
    obtain ⟨c0, c1, f0, f1, z1, hw1⟩ := own2 hb
    go_wp2_with fail
    refine (bare_any _ _).mono ?_
    rintro e w2 ⟨rfl, hb2⟩
    obtain ⟨d0, d1, g0, g1, z2⟩ := keep2 (past hb2) z1 c0 c1 f0 f1
    obtain ⟨q0, q1, r0, r1, z3, hw2⟩ := own2 hb2
    have hne : ¬ w.heap.size = w1.heap.size := by omega
    have hne2 : ¬ w1.heap.size = w.heap.size := by omega
    have hv2 := onto hw1 hw2
    go_wp2
    go_region
    go_wp2
    refine bodyPost_ret (v := .tuple #[.slice none 0 0, .agg #[.int .i64 2, .int .i64 (-1)]]) (by simp [results, Tryd.results42, go_sem, d0, d1]) rfl ?_
    refine ⟨rfl, below_drewN (w := ((((w2.setCell ⟨w1.heap.size, 0, none⟩ (.int .i64 2)).setCell ⟨w1.heap.size, 1, none⟩ (.int .i64 (-1))).setCell ⟨w.heap.size, 0, none⟩ (.int .i64 2)).setCell ⟨w.heap.size, 1, none⟩ (.int .i64 (-1)))) ?_ 1⟩
    exact ((((hv2.setCell (by simp; omega) _).setCell (by simp; omega) _).setCell (by simp) _).setCell (by simp) _)

set_option maxRecDepth 100000 in
set_option maxHeartbeats 1600000 in
theorem sinceOf_gap (a : Option Addr) (n cap : Nat) (es : List Ent) (hv most : Int) (w : World) (hn : es.length = n) (hr : RowAt w a (encEnts es)) (hm : n ≤ 4611686018427387904) (h0 : (chk es).1 = 0) (h : 0 ≤ hv) (h1 : 1 ≤ most) (h2 : (n : Int) < hv) :
    Calls Tryd.prog 42 #[.slice a n cap, .int .i64 hv, .int .i64 most] w fun e w' => e = .returned (.tuple #[.slice none 0 0, .agg #[.int .i64 10, .int .i64 (-1)]]) ∧ Below w.heap.size w w' := by
  have hb0 : Below w.heap.size w (w.alloc (.cells #[.int .i64 0, .int .i64 0] 39)) := (Below.refl _ _).alloc (Nat.le_refl _) _
  have C := Lib.hid (histFault_any a n cap es _ hn (hr.below hb0) hm)
  rw [chk_zero h0] at C
  simp only [Int.cast_ofNat_Int] at C
  clear hb0 h0
  go_enter Tryd.func42, Tryd.ntmps42
  go_wp2_with fail
  refine C.out.mono ?_
  rintro e w1 ⟨rfl, hb⟩
  obtain ⟨c0, c1, f0, f1, z1, hw1⟩ := own2 hb
  go_wp2_with fail
  refine (bare_any _ _).mono ?_
  rintro e w2 ⟨rfl, hb2⟩
  obtain ⟨d0, d1, g0, g1, z2⟩ := keep2 (past hb2) z1 c0 c1 f0 f1
  obtain ⟨q0, q1, r0, r1, z3, hw2⟩ := own2 hb2
  have hne : ¬ w.heap.size = w1.heap.size := by omega
  have hne2 : ¬ w1.heap.size = w.heap.size := by omega
  have hv2 := onto hw1 hw2
  go_wp2
  go_region
  go_wp2
  refine bodyPost_ret (v := .tuple #[.slice none 0 0, .agg #[.int .i64 10, .int .i64 (-1)]]) (by simp [results, Tryd.results42, go_sem, d0, d1]) rfl ?_
  refine ⟨rfl, below_drewN (w := ((((w2.setCell ⟨w1.heap.size, 0, none⟩ (.int .i64 10)).setCell ⟨w1.heap.size, 1, none⟩ (.int .i64 (-1))).setCell ⟨w.heap.size, 0, none⟩ (.int .i64 10)).setCell ⟨w.heap.size, 1, none⟩ (.int .i64 (-1)))) ?_ 1⟩
  exact ((((hv2.setCell (by simp; omega) _).setCell (by simp; omega) _).setCell (by simp) _).setCell (by simp) _)

set_option maxRecDepth 100000 in
set_option maxHeartbeats 3200000 in
theorem sinceOf_ok (a : Option Addr) (n cap : Nat) (es : List Ent) (hv : Nat) (most : Int) (w : World) (hn : es.length = n) (hr : RowAt w a (encEnts es)) (hm : n ≤ 200) (h0 : (chk es).1 = 0) (h : hv ≤ n) (h1 : 1 ≤ most) :
    Calls Tryd.prog 42 #[.slice a n cap, .int .i64 hv, .int .i64 most] w fun e w' => ∃ a' m cap', e = .returned (.tuple #[.slice a' m cap', .agg #[.int .i64 0, .int .i64 (-1)]]) ∧ RowAt w' a' (encEnts (sinceL es hv most)) ∧ (sinceL es hv most).length = m ∧ m ≤ cap' ∧ Below w.heap.size w w' := by
  have hb0 : Below w.heap.size w (w.alloc (.cells #[.int .i64 0, .int .i64 0] 39)) := (Below.refl _ _).alloc (Nat.le_refl _) _
  have C := Lib.hid (histFault_any a n cap es _ hn (hr.below hb0) (by omega))
  rw [chk_zero h0] at C
  simp only [Int.cast_ofNat_Int] at C
  obtain ⟨i0, hi, hz0, hz1, hz2⟩ := info_parts info_entry
  have hi' := Lib.hid hi
  have hz0' := Lib.hid hz0
  have hz1' := Lib.hid hz1
  have hz2' := Lib.hid hz2
  have HN := Lib.hid hn
  have hd1 : decide (n < hv) = false := by simp; omega
  have hd2 : decide (most < 1) = false := by simp; omega
  clear hb0 h0 hi hz0 hz1 hz2 hn
  go_enter Tryd.func42, Tryd.ntmps42
  go_wp2_with fail
  refine C.out.mono ?_
  rintro e w1 ⟨rfl, hb⟩
  obtain ⟨c0, c1, f0, f1, z1, hw1⟩ := own2 hb
  have hs1 := hw1.size
  go_wp2
  have hW : Below w.heap.size w (w1.alloc (.cells #[.int .i64 0, .int .i64 (-1)] 39)) := hw1.alloc hw1.size _
  have e0 : (w1.alloc (.cells #[.int .i64 0, .int .i64 (-1)] 39)).cell? ⟨w1.heap.size, 0, none⟩ = some (.int .i64 0) := by simp
  have e1 : (w1.alloc (.cells #[.int .i64 0, .int .i64 (-1)] 39)).cell? ⟨w1.heap.size, 1, none⟩ = some (.int .i64 (-1)) := by simp
  have d0 : (w1.alloc (.cells #[.int .i64 0, .int .i64 (-1)] 39)).cell? ⟨w.heap.size, 0, none⟩ = some (.int .i64 0) := by rw [World.cell?_alloc_lt _ _ ⟨w.heap.size, 0, none⟩ (by simpa using z1)]; exact c0
  have d1 : (w1.alloc (.cells #[.int .i64 0, .int .i64 (-1)] 39)).cell? ⟨w.heap.size, 1, none⟩ = some (.int .i64 0) := by rw [World.cell?_alloc_lt _ _ ⟨w.heap.size, 1, none⟩ (by simpa using z1)]; exact c1
  have g0 : (w1.alloc (.cells #[.int .i64 0, .int .i64 (-1)] 39)).frozen? ⟨w.heap.size, 0, none⟩ = false := (((Below.refl w1.heap.size w1).alloc (Nat.le_refl _) _).frozen (p := ⟨w.heap.size, 0, none⟩) z1).trans f0
  have g1 : (w1.alloc (.cells #[.int .i64 0, .int .i64 (-1)] 39)).frozen? ⟨w.heap.size, 1, none⟩ = false := (((Below.refl w1.heap.size w1).alloc (Nat.le_refl _) _).frozen (p := ⟨w.heap.size, 1, none⟩) z1).trans f1
  have hsz : (w1.alloc (.cells #[.int .i64 0, .int .i64 (-1)] 39)).heap.size = w1.heap.size + 1 := by simp
  have hrW := hr.below hW
  generalize hW0 : w1.alloc (.cells #[.int .i64 0, .int .i64 (-1)] 39) = W0 at *
  have HSZ := Lib.hid hsz
  have hlt1 : w1.heap.size < W0.heap.size := by omega
  have hlt0 : w.heap.size < W0.heap.size := by omega
  generalize hQ : w1.heap.size = Q at *
  clear hW0 hsz HSZ hb c0 c1 f0 f1 hw1 hQ
  go_loopw [9, 10] (fun v i wr => ∃ j : Nat, hv + j ≤ n ∧ (j : Int) ≤ most ∧ i = .int .i64 ((hv : Int) + j) ∧ wr.ownsRow W0.heap.size 76 4 v j (encEnts ((es.drop hv).take j)) ∧ Below W0.heap.size W0 wr) (fun _ i _ => n + 1 - (intOf i).toNat)
  case atStart => exact ⟨0, by omega, by omega, by simp, World.ownsRow_nil _ _ _ _, Below.refl _ _⟩
  case round =>
    obtain ⟨j, hj, hjm, rfl, ho, hbr⟩ := hrel
    have hszr := hbr.size
    obtain ⟨ao, co, rfl⟩ := owned_shape ho
    have hjm2 : j ≤ 200 := by omega
    have p0 := (hbr.cell (p := ⟨Q, 0, none⟩) hlt1).trans e0
    have p1 := (hbr.cell (p := ⟨Q, 1, none⟩) hlt1).trans e1
    by_cases hlt : hv + j < n ∧ (j : Int) < most
    · have hi1 : (hv : Int) + j < n := by omega
      obtain ⟨hl1, hl2⟩ := hlt
      have hkt : hv + j < es.length := by have := HN.out; omega
      obtain ⟨b, off, rfl, hbl, q0, q1, q2, q3⟩ := (hrW.below hbr).ent (hv + j) hkt
      have ht : Hid ((es.drop hv).take (j + 1) = (es.drop hv).take j ++ [es[hv + j]]) := by
        unfold Hid
        rw [List.take_succ_eq_append_getElem (by rw [List.length_drop]; omega)]
        simp
      have hi0 : (0 : Int) ≤ (hv : Int) + j := by omega
      generalize es[hv + j] = ek at *
      clear hkt
      go_wp2_with (at_builtin; refine wpList_append2 _ rfl (.tmp 52) (.tmp 57) 35 rfl W0.heap.size 76 i0 _ 4 32 Tryd.underlying35 hi'.out hz0'.out hz1'.out hz2'.out rfl (by decide) (.slice ao j co) j (encEnts ((es.drop hv).take j)) rfl ?_ _ 1 1 (ek).cells rfl rfl ?_ ?_ ?_ ?_ ?_ ?_; exact ho.alloc _; exact RowAt.new_at _ (ek).cells _ _ (by simp); exact Ent.one _; unfold maxLen; omega; omega; (simp; omega); intro v1 w5 ho1 hg1 hq hm1; clear hq hm1; have hb5 := (hbr.alloc hszr _).grown hg1 (by simp; omega) (fun j e => (ho.lt j e).1))
      go_roundw
      case rel => exact ⟨j + 1, by omega, by omega, by go_num, by rw [ht.out, encEnts_snoc]; exact ho1, hb5⟩
      case measure => simp [intOf]; omega
    · have hS : (es.drop hv).take j = sinceL es hv most := by
        have hN := HN.out
        rw [sinceL]
        by_cases hx : (j : Int) < most
        · rw [List.take_of_length_le (by rw [List.length_drop]; omega), List.take_of_length_le (by rw [List.length_drop]; omega)]
        · rw [show most.toNat = j by omega]
      rw [hS] at ho
      clear hS
      obtain ⟨ra, _, na, ma⟩ := RowAt.owned ho
      have hnB : ∀ b off, ao = some ⟨b, off, none⟩ → b ≠ w.heap.size := fun b off e => by subst e; have := (ho.lt b rfl).1; omega
      have hl : Hid ((sinceL es hv most).length = j) := by
        unfold Hid; have := ho.1; rw [encEnts_length] at this; omega
      have n0 := (hbr.cell (p := ⟨w.heap.size, 0, none⟩) hlt0).trans d0
      have n1 := (hbr.cell (p := ⟨w.heap.size, 1, none⟩) hlt0).trans d1
      have m0 := (hbr.frozen (p := ⟨w.heap.size, 0, none⟩) hlt0).trans g0
      have m1 := (hbr.frozen (p := ⟨w.heap.size, 1, none⟩) hlt0).trans g1
      have hbw := onto hW hbr
      have hfin := ra.set2 hnB (.int .i64 0) (.int .i64 (-1))
      clear ho
      by_cases hl1 : hv + j < n
      · have hi1 : (hv : Int) + j < n := by omega
        have hl2 : ¬ (j : Int) < most := fun h => hlt ⟨hl1, h⟩
        clear hlt
        go_wp2
        go_region
        go_wp2
        refine bodyPost_ret (v := .tuple #[.slice ao j co, .agg #[.int .i64 0, .int .i64 (-1)]]) (by simp [results, Tryd.results42, go_sem, n0, n1]) rfl ?_
        exact ⟨_, _, _, rfl, hfin.drewN 1, hl.out, na, below_drewN ((hbw.setCell (by simp) _).setCell (by simp) _) 1⟩
      · have hi1 : ¬ (hv : Int) + j < n := by omega
        clear hlt
        go_wp2
        go_region
        go_wp2
        refine bodyPost_ret (v := .tuple #[.slice ao j co, .agg #[.int .i64 0, .int .i64 (-1)]]) (by simp [results, Tryd.results42, go_sem, n0, n1]) rfl ?_
        exact ⟨_, _, _, rfl, hfin.drewN 1, hl.out, na, below_drewN ((hbw.setCell (by simp) _).setCell (by simp) _) 1⟩

theorem sinceOf_any (a : Option Addr) (n cap : Nat) (es : List Ent) (hv most : Int) (w : World) (hn : es.length = n) (hr : RowAt w a (encEnts es)) (hc : n ≤ 4611686018427387904) :
    Calls Tryd.prog 42 #[.slice a n cap, .int .i64 hv, .int .i64 most] w fun e w' => ∃ a' m cap', e = .returned (.tuple #[.slice a' m cap', .agg #[.int .i64 (sinceF es hv most).2.1, .int .i64 (sinceF es hv most).2.2]]) ∧ RowAt w' a' (encEnts (sinceF es hv most).1) ∧ (sinceF es hv most).1.length = m ∧ m ≤ cap' ∧ Below w.heap.size w w' := by
  by_cases h0 : (chk es).1 = 0
  · by_cases h1 : hv < 0 ∨ most < 1
    · have hF : sinceF es hv most = ([], 2, -1) := by rw [sinceF, if_neg (by simp [h0]), if_pos h1]
      rw [hF]
      refine (sinceOf_bound a n cap es hv most w hn hr hc h0 h1).mono ?_
      rintro e w' ⟨rfl, hb⟩
      exact ⟨none, 0, 0, rfl, Or.inl rfl, rfl, Nat.le_refl _, hb⟩
    · by_cases h2 : (n : Int) < hv
      · have hF : sinceF es hv most = ([], 10, -1) := by rw [sinceF, if_neg (by simp [h0]), if_neg h1, if_pos (by omega)]
        rw [hF]
        refine (sinceOf_gap a n cap es hv most w hn hr hc h0 (by omega) (by omega) h2).mono ?_
        rintro e w' ⟨rfl, hb⟩
        exact ⟨none, 0, 0, rfl, Or.inl rfl, rfl, Nat.le_refl _, hb⟩
      · have hF : sinceF es hv most = (sinceL es hv.toNat most, 0, -1) := by rw [sinceF, if_neg (by simp [h0]), if_neg h1, if_neg (by omega)]
        rw [hF]
        have hn200 : n ≤ 200 := by
          have hx := h0
          unfold chk at hx; split at hx
          · simp at hx
          · omega
        have hh : hv = (hv.toNat : Int) := by omega
        have hC := sinceOf_ok a n cap es hv.toNat most w hn hr hn200 h0 (by omega) (by omega)
        rw [← hh] at hC
        exact hC
  · have hF : sinceF es hv most = ([], chk es) := by rw [sinceF, if_pos h0]
    rw [hF]
    refine (sinceOf_chk a n cap es hv most w hn hr hc h0).mono ?_
    rintro e w' ⟨rfl, hb⟩
    exact ⟨none, 0, 0, rfl, Or.inl rfl, rfl, Nat.le_refl _, hb⟩

set_option maxRecDepth 100000 in
set_option maxHeartbeats 800000 in
theorem joinOf_chk (a a2 : Option Addr) (n cap n2 cap2 : Nat) (es : List Ent) (w : World) (hn : es.length = n) (hr : RowAt w a (encEnts es)) (hm : n ≤ 4611686018427387904) (h0 : (chk es).1 ≠ 0) :
    Calls Tryd.prog 45 #[.slice a n cap, .slice a2 n2 cap2] w fun e w' => e = .returned (.tuple #[.slice none 0 0, .agg #[.int .i64 (chk es).1, .int .i64 (chk es).2]]) ∧ Below w.heap.size w w' := by
  have hb0 : Below w.heap.size w (w.alloc (.cells #[.int .i64 0, .int .i64 0] 39)) := (Below.refl _ _).alloc (Nat.le_refl _) _
  have C := Lib.hid (histFault_any a n cap es _ hn (hr.below hb0) hm)
  have hp : (0 : Int) < ((chk es).1 : Int) := by omega
  have hz : (((chk es).1 : Int) == 0) = false := by simp; omega
  generalize ((chk es).1 : Int) = c at *
  generalize (chk es).2 = pl at *
  clear hb0 h0
  go_enter Tryd.func45, Tryd.ntmps45
  go_wp2_with fail
  refine C.out.mono ?_
  rintro e w1 ⟨rfl, hb⟩
  obtain ⟨c0, c1, f0, f1, z1, hw1⟩ := own2 hb
  obtain ⟨R0, R1⟩ := res2 z1 c0 c1
  go_wp2
  go_region
  go_wp2
  refine bodyPost_ret (v := .tuple #[.slice none 0 0, .agg #[.int .i64 c, .int .i64 pl]]) (by simp [results, Tryd.results45, go_sem, R0, R1]) rfl ?_
  exact ⟨rfl, below_drewN (((hw1.setCell (by simp) _).setCell (by simp) _).alloc (by simpa using hw1.size) _) 1⟩

set_option maxRecDepth 100000 in
set_option maxHeartbeats 3200000 in
theorem joinOf_ok (a a2 : Option Addr) (n cap n2 cap2 : Nat) (es fs : List Ent) (w : World) (hn : es.length = n) (hr : RowAt w a (encEnts es)) (hn2 : fs.length = n2) (hr2 : RowAt w a2 (encEnts fs)) (hc : n ≤ 1000) (hc2 : n2 ≤ 1000) (h0 : (chk es).1 = 0) :
    Calls Tryd.prog 45 #[.slice a n cap, .slice a2 n2 cap2] w fun e w' => ∃ a' m cap', e = .returned (.tuple #[.slice a' m cap', .agg #[.int .i64 (joinF es fs).2.1, .int .i64 (joinF es fs).2.2]]) ∧ RowAt w' a' (encEnts (joinF es fs).1) ∧ (joinF es fs).1.length = m ∧ m ≤ cap' ∧ Below w.heap.size w w' := by
  have hb0 : Below w.heap.size w (w.alloc (.cells #[.int .i64 0, .int .i64 0] 39)) := (Below.refl _ _).alloc (Nat.le_refl _) _
  have C := Lib.hid (histFault_any a n cap es _ hn (hr.below hb0) (by omega))
  rw [chk_zero h0] at C
  simp only [Int.cast_ofNat_Int] at C
  have hJ : Hid (joinF es fs = if (chk (es ++ fs)).1 ≠ 0 then ([], chk (es ++ fs)) else (es ++ fs, 0, -1)) := by unfold Hid; rw [joinF, if_neg (by simp [h0])]
  obtain ⟨i0, hi, hz0, hz1, hz2⟩ := info_parts info_entry
  have hi' := Lib.hid hi
  have hz0' := Lib.hid hz0
  have hz1' := Lib.hid hz1
  have hz2' := Lib.hid hz2
  have HN := Lib.hid hn
  have HN2 := Lib.hid hn2
  clear hb0 h0 hi hz0 hz1 hz2 hn hn2
  go_enter Tryd.func45, Tryd.ntmps45
  go_wp2_with fail
  refine C.out.mono ?_
  rintro e w1 ⟨rfl, hb⟩
  obtain ⟨c0, c1, f0, f1, z1, hw1⟩ := own2 hb
  have hs1 := hw1.size
  have hW : Below w.heap.size w (w1.alloc (.cells #[.int .i64 0, .int .i64 (-1)] 39)) := hw1.alloc hw1.size _
  have hW1 : Below w1.heap.size w1 (w1.alloc (.cells #[.int .i64 0, .int .i64 (-1)] 39)) := (Below.refl _ _).alloc (Nat.le_refl _) _
  have e0 : (w1.alloc (.cells #[.int .i64 0, .int .i64 (-1)] 39)).cell? ⟨w1.heap.size, 0, none⟩ = some (.int .i64 0) := by simp
  have e1 : (w1.alloc (.cells #[.int .i64 0, .int .i64 (-1)] 39)).cell? ⟨w1.heap.size, 1, none⟩ = some (.int .i64 (-1)) := by simp
  have k0 : (w1.alloc (.cells #[.int .i64 0, .int .i64 (-1)] 39)).frozen? ⟨w1.heap.size, 0, none⟩ = false := by simp
  have k1 : (w1.alloc (.cells #[.int .i64 0, .int .i64 (-1)] 39)).frozen? ⟨w1.heap.size, 1, none⟩ = false := by simp
  obtain ⟨d0, d1, g0, g1, _⟩ := keep2 hW1 z1 c0 c1 f0 f1
  have hsz : (w1.alloc (.cells #[.int .i64 0, .int .i64 (-1)] 39)).heap.size = w1.heap.size + 1 := by simp
  have hrW := hr.below hW
  have hrW2 := hr2.below hW
  go_wp2_with (first
    | (at_builtin; refine wpList_append2 _ rfl (.tmp 14) (.tmp 15) 35 rfl (w1.heap.size + 1) 76 i0 _ 4 32 Tryd.underlying35 hi'.out hz0'.out hz1'.out hz2'.out rfl (by decide) (.slice none 0 0) 0 [] rfl (World.ownsRow_nil _ _ _ _) a n cap (encEnts es) rfl ?_ ?_ ?_ ?_ ?_ ?_ ?_; (rw [encEnts_length]; have h1 := HN.out; omega); exact hrW; exact encEnts_one _; unfold maxLen; omega; omega; simp; intro v1 w2 ho1 hg1 hq hm1; clear hq hm1; rw [List.nil_append, Nat.zero_add] at ho1; have hb2 := (Below.refl _ _).grown hg1 (Nat.le_refl _) (fun j e => by simp [Value.ownBlock] at e); have hs2 := hb2.size; simp only [World.size_alloc] at hs2)
    | (at_builtin; refine wpList_append2 _ rfl (.tmp 17) (.tmp 18) 35 rfl (w1.heap.size + 1) 76 i0 _ 4 32 Tryd.underlying35 hi'.out hz0'.out hz1'.out hz2'.out rfl (by decide) v1 n (encEnts es) rfl ho1 a2 n2 cap2 (encEnts fs) rfl ?_ ?_ ?_ ?_ ?_ ?_ ?_; (rw [encEnts_length]; have h1 := HN2.out; omega); exact hrW2.below hb2; exact encEnts_one _; unfold maxLen; omega; omega; exact hs2; intro v2 w3 ho2 hg2 hq hm2; clear hq hm2; have hb3 := (hb2.mono (B' := w1.heap.size + 1) (by simp)).grown hg2 (by simpa using hs2) (fun j e => (ho1.lt j e).1)))
  have hb3 : Below (w1.alloc (.cells #[.int .i64 0, .int .i64 (-1)] 39)).heap.size (w1.alloc (.cells #[.int .i64 0, .int .i64 (-1)] 39)) w3 := hb3.mono (by simp)
  rw [show encEnts es ++ encEnts fs = encEnts (es ++ fs) by simp [encEnts]] at ho2
  obtain ⟨ao, co, rfl⟩ := owned_shape ho2
  obtain ⟨ra, _, na, ma⟩ := RowAt.owned ho2
  have hnB : ∀ b off, ao = some ⟨b, off, none⟩ → w1.heap.size + 1 ≤ b := fun b off e => by subst e; exact (ho2.lt b rfl).1
  clear ho1 ho2 hg1 hg2
  have C2 := Lib.hid (histFault_any ao (n + n2) co (es ++ fs) w3 (by rw [List.length_append, HN.out, HN2.out]) ra (by omega))
  have hw3 := onto hW hb3
  obtain ⟨e0, e1, k0, k1, _⟩ := keep2 hb3 (by simp) e0 e1 k0 k1
  obtain ⟨d0, d1, g0, g1, _⟩ := keep2 hb3 (by simp; omega) d0 d1 g0 g1
  clear hb2 hs2 hb hW1 hrW hrW2 c0 c1 f0 f1
  have hs3 : w1.heap.size + 1 ≤ w3.heap.size := by have := hb3.size; simpa using this
  clear hb3
  by_cases h0 : (chk (es ++ fs)).1 = 0
  · have hF : Hid (joinF es fs = (es ++ fs, 0, -1)) := by unfold Hid; rw [hJ.out, if_neg (by simp [h0])]
    rw [chk_zero h0] at C2
    simp only [Int.cast_ofNat_Int] at C2
    clear h0
    refine C2.out.mono ?_
    rintro e w4 ⟨rfl, hb4⟩
    obtain ⟨e0, e1, k0, k1, z4⟩ := keep2 hb4 (by omega) e0 e1 k0 k1
    obtain ⟨d0, d1, g0, g1, y4⟩ := keep2 hb4 (by omega) d0 d1 g0 g1
    have hw4 := onto hw3 hb4
    have hne : ¬ w.heap.size = w1.heap.size := by omega
    have hne2 : ¬ w1.heap.size = w.heap.size := by omega
    have hfin := (((ra.below hb4).set2 (B := w1.heap.size) (fun b off e => by have := hnB b off e; omega) (.int .i64 0) (.int .i64 (-1))).set2 (B := w.heap.size) (fun b off e => by have := hnB b off e; omega) (.int .i64 0) (.int .i64 (-1))).drewN 1
    go_wp2
    go_region
    go_wp2
    refine bodyPost_ret (v := .tuple #[.slice ao (n + n2) co, .agg #[.int .i64 0, .int .i64 (-1)]]) (by simp [results, Tryd.results45, go_sem, d0, d1]) rfl ?_
    rw [hF.out]
    refine ⟨_, _, _, rfl, hfin, by rw [List.length_append, HN.out, HN2.out], na, below_drewN (w := ((((w4.setCell ⟨w1.heap.size, 0, none⟩ (.int .i64 0)).setCell ⟨w1.heap.size, 1, none⟩ (.int .i64 (-1))).setCell ⟨w.heap.size, 0, none⟩ (.int .i64 0)).setCell ⟨w.heap.size, 1, none⟩ (.int .i64 (-1)))) ?_ 1⟩
    exact ((((hw4.setCell (by simp; omega) _).setCell (by simp; omega) _).setCell (by simp) _).setCell (by simp) _)
  · have hF : Hid (joinF es fs = ([], chk (es ++ fs))) := by unfold Hid; rw [hJ.out, if_pos h0]
    have hp : (0 : Int) < ((chk (es ++ fs)).1 : Int) := by omega
    generalize hq1 : ((chk (es ++ fs)).1 : Int) = c at *
    generalize hq2 : (chk (es ++ fs)).2 = pl at *
    have HQ1 := Lib.hid hq1
    have HQ2 := Lib.hid hq2
    clear h0 hq1 hq2
    refine C2.out.mono ?_
    rintro e w4 ⟨rfl, hb4⟩
    obtain ⟨e0, e1, k0, k1, z4⟩ := keep2 hb4 (by omega) e0 e1 k0 k1
    obtain ⟨d0, d1, g0, g1, y4⟩ := keep2 hb4 (by omega) d0 d1 g0 g1
    have hw4 := onto hw3 hb4
    have hne : ¬ w.heap.size = w1.heap.size := by omega
    have hne2 : ¬ w1.heap.size = w.heap.size := by omega
    go_wp2
    go_region
    go_wp2
    refine bodyPost_ret (v := .tuple #[.slice none 0 0, .agg #[.int .i64 c, .int .i64 pl]]) (by simp [results, Tryd.results45, go_sem, d0, d1]) rfl ?_
    rw [hF.out]
    refine ⟨none, 0, 0, by rw [← HQ1.out, ← HQ2.out], Or.inl rfl, rfl, Nat.le_refl _, below_drewN (w := ((((w4.setCell ⟨w1.heap.size, 0, none⟩ (.int .i64 c)).setCell ⟨w1.heap.size, 1, none⟩ (.int .i64 pl)).setCell ⟨w.heap.size, 0, none⟩ (.int .i64 c)).setCell ⟨w.heap.size, 1, none⟩ (.int .i64 pl))) ?_ 1⟩
    exact ((((hw4.setCell (by simp; omega) _).setCell (by simp; omega) _).setCell (by simp) _).setCell (by simp) _)

theorem joinOf_any (a a2 : Option Addr) (n cap n2 cap2 : Nat) (es fs : List Ent) (w : World) (hn : es.length = n) (hr : RowAt w a (encEnts es)) (hn2 : fs.length = n2) (hr2 : RowAt w a2 (encEnts fs)) (hc : n ≤ 1000) (hc2 : n2 ≤ 1000) :
    Calls Tryd.prog 45 #[.slice a n cap, .slice a2 n2 cap2] w fun e w' => ∃ a' m cap', e = .returned (.tuple #[.slice a' m cap', .agg #[.int .i64 (joinF es fs).2.1, .int .i64 (joinF es fs).2.2]]) ∧ RowAt w' a' (encEnts (joinF es fs).1) ∧ (joinF es fs).1.length = m ∧ m ≤ cap' ∧ Below w.heap.size w w' := by
  by_cases h0 : (chk es).1 = 0
  · exact joinOf_ok a a2 n cap n2 cap2 es fs w hn hr hn2 hr2 hc hc2 h0
  · have hF : joinF es fs = ([], chk es) := by rw [joinF, if_pos h0]
    rw [hF]
    refine (joinOf_chk a a2 n cap n2 cap2 es w hn hr (by omega) h0).mono ?_
    rintro e w' ⟨rfl, hb⟩
    exact ⟨none, 0, 0, rfl, Or.inl rfl, rfl, Nat.le_refl _, hb⟩
end Go.Proofs.YtmikeblbfmfimaaDoor
