/- ClockTells: the law's walk. -/
import Derived.Test.YtlpgafpmhihneaaDoorSetOf
import Derived.Test.YtlpgafpmhihneaaDoorSameInts
import Derived.Test.YtlpgafpmhihneaaDoorOwnInts
import Derived.Test.YtlpgafpmhihneaaDoorCoded
namespace Go.Proofs.YtlpgafpmhihneaaDoor
open Go.RowKit

theorem faulted1_same (ea : Nat → Addr) (v : Value) (code : Nat) (pl : Int) (w : World) (hG : GlobC w ea) (hE : ErrIs ea w v code pl) (h11 : code ≤ 11) :
    Calls Tryd.prog 13 #[v, .agg #[.int .i64 code, .int .i64 pl]] w fun e w' => e = .returned (.bool true) ∧ Below w.heap.size w w' :=
  (faulted1_any ea v code pl code pl w hG hE h11).mono fun e w' ⟨h1, h2⟩ => ⟨by rw [h1]; simp, h2⟩

set_option maxRecDepth 100000 in
theorem clockTells_long (ea : Nat → Addr) (a : Option Addr) (n cap : Nat) (k own : Int) (w : World) (hG : GlobC w ea) (hc : n ≤ 4611686018427387904) (h : 40 < n) :
    Calls Tryd.prog 5 #[.slice a n cap, .int .i64 k, .int .i64 own] w fun e w' => e = .returned (.bool true) ∧ Below w.heap.size w w' := by
  have C := Lib.hid (clocked_any ea w (hG.glob.sub (by simp)))
  clear hG
  go_enter Tryd.func5, Tryd.ntmps5
  go_wp2_with fail
  refine C.out.mono ?_
  rintro e w1 ⟨rfl, hb⟩
  go_wp2
  go_ret
  exact ⟨rfl, hb⟩

set_option maxRecDepth 400000 in
set_option maxHeartbeats 3200000 in
theorem clockTells_law (ea : Nat → Addr) (a : Option Addr) (n cap : Nat) (l : List Int) (k own : Int) (w : World) (hG : GlobC w ea) (hn : l.length = n) (hr : RowAt w a (encInts l)) (h : n ≤ 40) :
    Calls Tryd.prog 5 #[.slice a n cap, .int .i64 k, .int .i64 own] w fun e w' => e = .returned (.bool true) ∧ Below w.heap.size w w' := by
  have C1 := Lib.hid (clocked_any ea w (hG.glob.sub (by simp)))
  have HR := Lib.hid hr
  have HN := Lib.hid hn
  have hml := midF_le l k
  have hsl := setF_le own l k
  clear hr hn
  go_enter Tryd.func5, Tryd.ntmps5
  go_wp2_with fail
  refine C1.out.mono ?_
  rintro e w1 ⟨rfl, hb1⟩
  go_wp2_with (at_builtin; refine wpList_ownInts rfl _ _ rfl w.heap.size a n cap l rfl rfl HN.out (HR.out.below hb1) (by omega) hb1.size ?_; intro ao co w2 hown hro hco hb2)
  have hw2 : Below w.heap.size w w2 := onto hb1 hb2
  clear hown hb1 hb2
  have hr2 := HR.out.below hw2
  have HG2 := Lib.hid (hG.below hw2)
  have KM := Lib.hid (fun (W : World) (hb : Below w2.heap.size w2 W) => mid_any ea ao n co l k W ((HG2.out.below hb).glob.sub (by simp)) HN.out (hro.below hb) (by omega))
  have RM := Lib.hid (fun (W : World) (hb : Below w2.heap.size w2 W) => midOf_any a n cap l k W HN.out (hr2.below hb) (by omega))
  have KS := Lib.hid (fun (W : World) (hb : Below w2.heap.size w2 W) => set_any ea own ao n co l k W ((HG2.out.below hb).glob.sub (by simp)) HN.out (hro.below hb) (by omega))
  have RS := Lib.hid (fun (W : World) (hb : Below w2.heap.size w2 W) => refSet_any own a n cap l k W HN.out (hr2.below hb) (by omega))
  have SI := Lib.hid (fun (W : World) (hb : Below w2.heap.size w2 W) => sameInts_any ao a n co n cap l l W HN.out (hro.below hb) HN.out (hr2.below hb) (by omega))
  have KP := Lib.hid (fun (W : World) (hb : Below w2.heap.size w2 W) (hf : ∀ x ∈ l, farB x = false) => spread_any ao n co l W HN.out (hro.below hb) (by omega) hf)
  have RP := Lib.hid (fun (W : World) (hb : Below w2.heap.size w2 W) (hf : ∀ x ∈ l, farB x = false) => spreadOf_any a n cap l W HN.out (hr2.below hb) (by omega) hf)
  have F1 := Lib.hid (fun (W : World) (v : Value) (hb : Below w2.heap.size w2 W) (hE : ErrIs ea W v (midF l k).2.1 (midF l k).2.2) => faulted1_same ea v _ _ W (HG2.out.below hb) hE hml)
  have F2 := Lib.hid (fun (W : World) (v : Value) (hb : Below w2.heap.size w2 W) (hE : ErrIs ea W v (setF own l k).2.1 (setF own l k).2.2) => faulted1_same ea v _ _ W (HG2.out.below hb) hE hsl)
  have HRW := Lib.hid (fun (W : World) (hb : Below w2.heap.size w2 W) => hr2.below hb)
  clear hml hsl hro hr2
  generalize hq1 : ((midF l k).2.1 : Int) = c at *
  generalize hq2 : (midF l k).2.2 = pl at *
  generalize hq3 : (midF l k).1 = x at *
  generalize hq4 : ((setF own l k).2.1 : Int) = d at *
  generalize hq5 : (setF own l k).2.2 = dl at *
  generalize hq6 : (setF own l k).1 = y at *
  generalize hq7 : spreadF l = sp at *
  clear hq1 hq2 hq3 hq4 hq5 hq6 hq7
  refine (KM.out _ (Below.refl _ _)).mono ?_
  rintro e w3 ⟨v3, rfl, hE3, hb3⟩
  go_wp2_with fail
  refine (RM.out _ hb3).mono ?_
  rintro e w4 ⟨rfl, hb4⟩
  have hv4 := onto hb3 hb4
  have hE4 := (hE3.below hb4).below ((Below.refl _ _).alloc (Nat.le_refl _) (.cells #[.int .i64 c, .int .i64 pl] 32))
  go_wp2_with fail
  refine (F1.out _ v3 (hv4.alloc hv4.size _) hE4).mono ?_
  rintro e w5 ⟨rfl, hb5⟩
  obtain ⟨k0, k1, g0, g1, z5, hb45⟩ := own2 hb5
  have hv5 := onto hv4 hb45
  have hB2 := hv4.size
  generalize hB : w4.heap.size = B at *
  have HB := Lib.hid hB
  clear hB hb5 hb45
  go_wp2_with fail
  refine (KS.out _ hv5).mono ?_
  rintro e w6 ⟨v6, rfl, hE6, hb6⟩
  obtain ⟨k0, k1, g0, g1, z6⟩ := keep2 hb6 z5 k0 k1 g0 g1
  have hv6 := onto hv5 hb6
  go_wp2_with fail
  refine (RS.out _ hv6).mono ?_
  rintro e w7 ⟨rfl, hb7⟩
  obtain ⟨k0, k1, g0, g1, z7⟩ := keep2 hb7 z6 k0 k1 g0 g1
  have hv7 := onto hv6 hb7
  have hE7 := (hE6.below hb7).set2 k1 (.int .i64 d) (.int .i64 dl)
  obtain ⟨W8, hW8, k0, k1, g0, g1, z8, hb8⟩ := set2 (x := .int .i64 d) (y := .int .i64 dl) z7 k0 k1 g0 g1
  have hv8 := hb8 w2 hv7 hB2
  rw [← hW8] at hE7
  clear hb8
  go_wp2_with fail
  rw [← hW8]
  refine (F2.out _ v6 hv8 hE7).mono ?_
  rintro e w9 ⟨rfl, hb9⟩
  have hv9 := onto hv8 hb9
  go_wp2_with fail
  refine (SI.out _ hv9).mono ?_
  rintro e w10 ⟨rfl, hb10⟩
  have hv10 := onto hv9 hb10
  clear hW8 k0 k1 g0 g1 z8 z7 z6 z5 hE7 hE6 hE4 hE3 hv9 hv8 hv7 hv6 hv5 hv4 hB2 HB
  go_wp2
  go_loop [13] (fun i => ∃ j : Nat, j ≤ n ∧ i = .int .i64 j ∧ Hid (∀ m, m < j → farB (l.getD m 0) = false)) (fun i => n - (intOf i).toNat)
  case atStart => exact ⟨0, Nat.zero_le _, rfl, fun m h => by omega⟩
  case round =>
    obtain ⟨j, hj, rfl, HF⟩ := hrel
    by_cases hlt : j < n
    · obtain ⟨b, off, rfl, hbl, c0⟩ := (HRW.out _ hv10).intG j (by rw [HN.out]; exact hlt)
      have HF' : Hid (farB (l.getD j 0) = false → ∀ m, m < j + 1 → farB (l.getD m 0) = false) := fun h m hm => by
        by_cases e : m = j
        · rw [e]; exact h
        · exact HF.out m (by omega)
      generalize l.getD j 0 = z at *
      by_cases h1 : z < -1000000
      · go_wp2
        go_ret
        exact ⟨rfl, onto hw2 hv10⟩
      · have hd1 : decide (z < -1000000) = false := by simpa using h1
        by_cases h2 : 1000000 < z
        · have hd2 : decide (1000000 < z) = true := by simpa using h2
          go_wp2
          go_ret
          exact ⟨rfl, onto hw2 hv10⟩
        · have hd2 : decide (1000000 < z) = false := by simpa using h2
          have HZ : Hid (farB z = false) := by unfold Hid; simp only [farB, decide_eq_false_iff_not]; omega
          go_wp2
          go_round
          case rel => exact ⟨j + 1, by omega, by go_num, HF'.out HZ.out⟩
          case measure => simp [intOf]; omega
    · obtain rfl : j = n := by omega
      have hfar : Hid (∀ x ∈ l, farB x = false) := fun x hx => by
        obtain ⟨m, hm, rfl⟩ := List.getElem_of_mem hx
        have := HF.out m (by rw [← HN.out]; exact hm)
        rwa [List.getD_eq_getElem?_getD, List.getElem?_eq_getElem hm] at this
      go_wp2_with fail
      refine (KP.out _ hv10 hfar.out).mono ?_
      rintro e w11 ⟨rfl, rfl⟩
      go_wp2_with fail
      refine (RP.out _ hv10 hfar.out).mono ?_
      rintro e w12 ⟨rfl, hb12⟩
      go_wp2
      go_ret
      exact ⟨ret_bool (by simp), onto hw2 (onto hv10 hb12)⟩

theorem walk_ClockTells (ea : Nat → Addr) (a : Option Addr) (n cap : Nat) (l : List Int) (k own : Int) (w : World) (hG : GlobC w ea)
    (hn : l.length = n) (hr : RowAt w a (encInts l)) (_hc : n ≤ cap) (hb : n ≤ 4611686018427387904) (_h1 : -9223372036854775808 ≤ k ∧ k ≤ 9223372036854775807) (_h2 : -9223372036854775808 ≤ own ∧ own ≤ 9223372036854775807) :
    Calls Tryd.prog 5 #[.slice a n cap, .int .i64 k, .int .i64 own] w fun e w' => e = .returned (.bool true) ∧ Below w.heap.size w w' := by
  by_cases h : 40 < n
  · exact clockTells_long ea a n cap k own w hG hb h
  · exact clockTells_law ea a n cap l k own w hG hn hr (by omega)
end Go.Proofs.YtlpgafpmhihneaaDoor
