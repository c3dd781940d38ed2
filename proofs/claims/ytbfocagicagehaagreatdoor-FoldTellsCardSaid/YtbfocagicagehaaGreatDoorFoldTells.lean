/- FoldTells: the law's walk. -/
import Derived.Test.YtbfocagicagehaaGreatDoorRefReadH
import Derived.Test.YtbfocagicagehaaGreatDoorRefWords
import Derived.Test.YtbfocagicagehaaGreatDoorRefLast
import Derived.Test.YtbfocagicagehaaGreatDoorFoldFact
import Derived.Test.YtbfocagicagehaaGreatDoorSameInts
import Derived.Test.YtbfocagicagehaaGreatDoorCoded
namespace Go.Proofs.YtbfocagicagehaaGreatDoor
open Go.RowKit

theorem faulted2_sm (ea : Nat → Addr) (v : Value) (code : Nat) (pl : Int) (w : World) (hG : GlobC w ea) (hE : ErrIs ea w v code pl) (h11 : code ≤ 11) :
    Calls Tryz.prog 12 #[v, .agg #[.int .i64 code, .int .i64 pl]] w fun e w' => e = .returned (.bool true) ∧ Below w.heap.size w w' :=
  (faulted2_any ea v code pl code pl w hG hE h11).mono fun e w' ⟨h1, h2⟩ => ⟨by rw [h1]; simp, h2⟩

theorem last_err (ea : Nat → Addr) (a : Option Addr) (n cap : Nat) (es : List Ent) (w : World) (hg : Glob w ea [7, 10, 4, 2, 3]) (hn : es.length = n) (hr : RowAt w a (encEnts es)) (hm : n ≤ 4611686018427387904) (h : (chk es).1 ≠ 0) :
    Calls Tryz.prog 9 #[.slice a n cap] w fun e w' => ∃ v, e = .returned (.tuple #[.slice none 0 0, v]) ∧ ErrIs ea w' v (chk es).1 (chk es).2 ∧ Below w.heap.size w w' := by
  have KC := Lib.hid (check_any ea a n cap es w hg hn hr hm)
  have H := Lib.hid h
  clear hg hr hn h
  go_enter Tryz.func9, Tryz.ntmps9
  go_wp2_with fail
  refine KC.out.mono ?_
  rintro e w1 ⟨v, rfl, hv, hb1⟩
  obtain ⟨vt, vx, rfl⟩ := hv.held H.out
  go_wp2
  go_ret2
  exact ⟨_, rfl, hv, hb1⟩
theorem total_err (ea : Nat → Addr) (a : Option Addr) (n cap : Nat) (es : List Ent) (w : World) (hg : Glob w ea [7, 10, 4, 2, 3]) (hn : es.length = n) (hr : RowAt w a (encEnts es)) (hm : n ≤ 4611686018427387904) (h : (chk es).1 ≠ 0) :
    Calls Tryz.prog 10 #[.slice a n cap] w fun e w' => ∃ v, e = .returned (.tuple #[.int .i64 0, v]) ∧ ErrIs ea w' v (chk es).1 (chk es).2 ∧ Below w.heap.size w w' := by
  have KC := Lib.hid (check_any ea a n cap es w hg hn hr hm)
  have H := Lib.hid h
  clear hg hr hn h
  go_enter Tryz.func10, Tryz.ntmps10
  go_wp2_with fail
  refine KC.out.mono ?_
  rintro e w1 ⟨v, rfl, hv, hb1⟩
  obtain ⟨vt, vx, rfl⟩ := hv.held H.out
  go_wp2
  go_ret2
  exact ⟨_, rfl, hv, hb1⟩
theorem text_err (ea : Nat → Addr) (a : Option Addr) (n cap : Nat) (es : List Ent) (w : World) (hg : Glob w ea [7, 10, 4, 2, 3]) (hn : es.length = n) (hr : RowAt w a (encEnts es)) (hm : n ≤ 4611686018427387904) (h : (chk es).1 ≠ 0) :
    Calls Tryz.prog 11 #[.slice a n cap] w fun e w' => ∃ v, e = .returned (.tuple #[.string ⟨#[]⟩, v]) ∧ ErrIs ea w' v (chk es).1 (chk es).2 ∧ Below w.heap.size w w' := by
  have KC := Lib.hid (check_any ea a n cap es w hg hn hr hm)
  have H := Lib.hid h
  clear hg hr hn h
  go_enter Tryz.func11, Tryz.ntmps11
  go_wp2_with fail
  refine KC.out.mono ?_
  rintro e w1 ⟨v, rfl, hv, hb1⟩
  obtain ⟨vt, vx, rfl⟩ := hv.held H.out
  go_wp2
  go_ret2
  exact ⟨_, rfl, hv, hb1⟩

theorem chk_le11 (es : List Ent) : (chk es).1 ≤ 11 := chk_le es
theorem foldR_le (s : List UInt8) : (foldR s).1.1 ≤ 11 := by
  unfold foldR
  split
  · decide
  · split
    · decide
    · split
      · decide
      · split
        · exact Nat.zero_le _
        · exact chk_le11 _

set_option maxRecDepth 100000 in
theorem foldTells_long (ea : Nat → Addr) (a : Option Addr) (n cap : Nat) (s : List UInt8) (w : World) (hg : Glob w ea [1, 2, 3, 4, 7, 10]) (hT : TxtEnv w) (hc : n ≤ 4611686018427387904) (_hs : s.length ≤ maxLen) (h : (60 < n ∧ n ≠ 201) ∨ (600 < s.length ∧ s.length ≠ 4001)) :
    Calls Tryz.prog 3 #[.slice a n cap, .string ⟨s.toArray⟩] w fun e w' => e = .returned (.bool true) ∧ Below w.heap.size w w' := by
  have K0 := Lib.hid (folded_any ea w hg hT)
  clear hg hT
  by_cases h1 : 60 < n ∧ n ≠ 201
  · obtain ⟨h1, h2⟩ := h1
    have hz : ((n : Int) != 201) = true := by simp; omega
    clear h h2
    go_enter Tryz.func3, Tryz.ntmps3
    go_wp2_with fail
    refine K0.out.mono ?_
    rintro e w1 ⟨rfl, hb⟩
    go_wp2
    go_ret
    exact ⟨rfl, hb⟩
  · have h2 : 600 < s.length ∧ s.length ≠ 4001 := by omega
    obtain ⟨h2, h3⟩ := h2
    have hz : ((s.length : Int) != 4001) = true := by simp; omega
    have dn : decide ((60 : Int) < (n : Int)) = false ∨ ((60 : Int) < (n : Int) ∧ ((n : Int) != 201) = false) := by simp; omega
    clear h h3 h1
    rcases dn with dn | ⟨dn, dn2⟩
    all_goals
      go_enter Tryz.func3, Tryz.ntmps3
      go_wp2_with fail
      refine K0.out.mono ?_
      rintro e w1 ⟨rfl, hb⟩
      go_wp2
      go_ret
      exact ⟨rfl, hb⟩
theorem foldR_len (s : List UInt8) : (foldR s).2.length ≤ 200 := by
  unfold foldR
  split
  · exact Nat.zero_le _
  · split
    · exact Nat.zero_le _
    · split
      · exact Nat.zero_le _
      · split
        · rename_i h; exact chk_len h
        · exact Nat.zero_le _
/-- Entries abide where a fault's block is written: it has two cells alone. -/
theorem RowAt.setFlt2 {w : World} {a : Option Addr} {es : List Ent} {B : Nat} (h : RowAt w a (encEnts es)) (hN : ∀ o, 2 ≤ o → w.cell? ⟨B, o, none⟩ = none) (x y : Value) :
    RowAt ((w.setCell ⟨B, 0, none⟩ x).setCell ⟨B, 1, none⟩ y) a (encEnts es) := by
  cases es with
  | nil => exact Or.inl rfl
  | cons e r =>
    obtain ⟨b, off, rfl, hlt, hc⟩ := h.at (fun e' => by have := encEnts_length (e :: r); rw [e'] at this; simp at this)
    obtain ⟨b', off', e', _, _, _, c2, _⟩ := h.ent 0 (by simp)
    injection e' with e'
    injection e' with e1 e2
    subst e1 e2
    have hne : B ≠ b := by
      rintro rfl
      rw [hN _ (by omega)] at c2
      cases c2
    refine Or.inr ⟨b, off, rfl, by simpa using hlt, fun i v hv => ?_⟩
    exact (World.cell?_setCell_other _ _ _ _ (fun e => hne (congrArg Addr.block e))).trans ((World.cell?_setCell_other _ _ _ _ (fun e => hne (congrArg Addr.block e))).trans (hc i v hv))

set_option maxRecDepth 400000 in
set_option maxHeartbeats 3200000 in
theorem foldTells_bad (ea : Nat → Addr) (a : Option Addr) (n cap : Nat) (es : List Ent) (s : List UInt8) (w : World) (hG : GlobC w ea) (hT : TxtEnv w) (hn : es.length = n) (hr : RowAt w a (encEnts es)) (hm : n ≤ 201)
    (h1 : n ≤ 60 ∨ n = 201) (h2 : s.length ≤ 600 ∨ s.length = 4001) (h : (chk es).1 ≠ 0) :
    Calls Tryz.prog 3 #[.slice a n cap, .string ⟨s.toArray⟩] w fun e w' => e = .returned (.bool true) ∧ Below w.heap.size w w' := by
  have K0 := Lib.hid (folded_any ea w (hG.glob.sub (by simp)) hT)
  have KH := Lib.hid (fun (W : World) (hb : Below w.heap.size w W) => histFault_any a n cap es W hn (hr.below hb) (by omega))
  have KR := Lib.hid (fun (W : World) (hb : Below w.heap.size w W) => foldRead_any ea s W (by omega) ((hG.below hb).glob.sub (by simp)) (hT.below hb))
  have RR := Lib.hid (fun (W : World) => readHist_any s W (by omega))
  have F1 := Lib.hid (fun (W : World) (v : Value) (hb : Below w.heap.size w W) (hE : ErrIs ea W v (chk es).1 (chk es).2) => faulted2_sm ea v _ _ W (hG.below hb) hE (chk_le11 es))
  have F2 := Lib.hid (fun (W : World) (v : Value) (hb : Below w.heap.size w W) (hE : ErrIs ea W v (foldR s).1.1 (foldR s).1.2) => faulted2_sm ea v _ _ W (hG.below hb) hE (foldR_le s))
  have KL := Lib.hid (fun (W : World) (hb : Below w.heap.size w W) => last_err ea a n cap es W ((hG.below hb).glob.sub (by simp)) hn (hr.below hb) (by omega) h)
  have KT := Lib.hid (fun (W : World) (hb : Below w.heap.size w W) => total_err ea a n cap es W ((hG.below hb).glob.sub (by simp)) hn (hr.below hb) (by omega) h)
  have KX := Lib.hid (fun (W : World) (hb : Below w.heap.size w W) => text_err ea a n cap es W ((hG.below hb).glob.sub (by simp)) hn (hr.below hb) (by omega) h)
  have hp : (0 : Int) < ((chk es).1 : Int) := by omega
  have hz : (((chk es).1 : Int) == 0) = false := by simp; omega
  have dn : decide ((60 : Int) < (n : Int)) = false ∨ ((60 : Int) < (n : Int) ∧ ((n : Int) != 201) = false) := by simp; omega
  have ds : decide ((600 : Int) < (s.length : Int)) = false ∨ ((600 : Int) < (s.length : Int) ∧ ((s.length : Int) != 4001) = false) := by simp; omega
  generalize hq1 : ((chk es).1 : Int) = c1 at *
  generalize hq2 : (chk es).2 = p1 at *
  generalize hq3 : ((foldR s).1.1 : Int) = c2 at *
  generalize hq4 : (foldR s).1.2 = p2 at *
  have RR2 : Hid (∀ W : World, Calls Tryz.prog 18 #[.string ⟨s.toArray⟩] W fun e w' => ∃ ao n co, e = .returned (.tuple #[.slice ao n co, .agg #[.int .i64 c2, .int .i64 p2]]) ∧ RowAt w' ao (encEnts (foldR s).2) ∧ (foldR s).2.length = n ∧ n ≤ co ∧ Below W.heap.size W w') := fun W => by
    have := RR.out W
    unfold RHPost at this
    rw [hq3, hq4] at this
    exact this
  have hfl := foldR_len s
  generalize hq5 : (foldR s).2 = fs at *
  clear RR
  have HC := Lib.hid (And.intro hq1 hq2)
  clear hq1 hq2 hq3 hq4 hq5 hn hr hG hT h h1 h2
  rcases dn with dn | ⟨dn, dn2⟩
  all_goals
    rcases ds with ds | ⟨ds, ds2⟩
    all_goals
      go_enter Tryz.func3, Tryz.ntmps3
      go_wp2_with fail
      refine K0.out.mono ?_
      rintro e w1 ⟨rfl, hv1⟩
      go_wp2_with fail
      refine (KH.out _ hv1).mono ?_
      rintro e w2 ⟨rfl, hb2⟩
      have hv2 := hv1.trans (hb2.mono hv1.size)
      have bF := Blok.new w2 25 #[.int .i64 c1, .int .i64 p1]
      have hvF := hv2.alloc hv2.size (.cells #[.int .i64 c1, .int .i64 p1] 25)
      have hFw := hv2.size
      go_wp2_with fail
      generalize hWF : w2.alloc (.cells #[.int .i64 c1, .int .i64 p1] 25) = wF at *
      generalize w2.heap.size = F at *
      clear hb2 hWF hv1 hv2
      refine (KL.out _ hvF).mono ?_
      rintro e w3 ⟨v1, rfl, hE1, hb3⟩
      have hv3 := hvF.trans (hb3.mono hvF.size)
      have bF := bF.kept hb3
      go_wp2_with fail
      refine (KT.out _ hv3).mono ?_
      rintro e w4 ⟨v2, rfl, hE2, hb4⟩
      have hv4 := hv3.trans (hb4.mono hv3.size)
      have bF := bF.kept hb4
      go_wp2_with fail
      refine (KX.out _ hv4).mono ?_
      rintro e w5 ⟨v3, rfl, hE3, hb5⟩
      have hv5 := hv4.trans (hb5.mono hv4.size)
      have bF := bF.kept hb5
      have hE1 := (hE1.below hb4).below hb5
      have hE2 := hE2.below hb5
      clear hb3 hb4 hb5
      have k0 := bF.cell 0 rfl
      have k1 := bF.cell 1 rfl
      go_wp2_with fail
      refine (F1.out _ v1 hv5 hE1).mono ?_
      rintro e w6 ⟨rfl, hb6⟩
      have hv6 := hv5.trans (hb6.mono hv5.size)
      have bF := bF.kept hb6
      have hE2 := hE2.below hb6
      have hE3 := hE3.below hb6
      clear hb6 k0 k1
      have k0 := bF.cell 0 rfl
      have k1 := bF.cell 1 rfl
      go_wp2_with fail
      refine (F1.out _ v2 hv6 hE2).mono ?_
      rintro e w7 ⟨rfl, hb7⟩
      have hv7 := hv6.trans (hb7.mono hv6.size)
      have bF := bF.kept hb7
      have hE3 := hE3.below hb7
      clear hb7 k0 k1
      have k0 := bF.cell 0 rfl
      have k1 := bF.cell 1 rfl
      go_wp2_with fail
      refine (F1.out _ v3 hv7 hE3).mono ?_
      rintro e w8 ⟨rfl, hb8⟩
      have hv8 := hv7.trans (hb8.mono hv7.size)
      have bF := bF.kept hb8
      clear hb8 k0 k1
      have k0 := bF.cell 0 rfl
      go_wp2_with fail
      refine (KR.out _ hv8).mono ?_
      rintro e w13 ⟨v, ay, my, cy, rfl, hE, hry, hmy, hcy, hb13⟩
      have hv13 := hv8.trans (hb13.mono hv8.size)
      have bF := bF.kept hb13
      clear k0
      go_wp2_with fail
      refine (RR2.out _).mono ?_
      rintro e w14 ⟨az, mz, cz, rfl, hrz, hmz, hcz, hb14⟩
      have hv14 := hv13.trans (hb14.mono hv13.size)
      have bF := bF.kept hb14
      have k0 := bF.cell 0 rfl
      have k1 := bF.cell 1 rfl
      have g0 := bF.frozen 0
      have g1 := bF.frozen 1
      have hN : ∀ o, 2 ≤ o → w14.cell? ⟨F, o, none⟩ = none := fun o ho => by
        simp only [World.cell?, show w14.heap[F]? = _ from bF]
        match o, ho with
        | m + 2, _ => simp
      have HE := Lib.hid ((hE.below hb14).set2 k1 (.int .i64 c2) (.int .i64 p2))
      have Hy := Lib.hid ((hry.below hb14).setFlt2 hN (.int .i64 c2) (.int .i64 p2))
      have Hz := Lib.hid (hrz.setFlt2 hN (.int .i64 c2) (.int .i64 p2))
      have HV := Lib.hid ((hv14.setCell (p := ⟨F, 0, none⟩) hFw (.int .i64 c2)).setCell (p := ⟨F, 1, none⟩) hFw (.int .i64 p2))
      clear hE hry hrz hN
      go_wp2_with fail
      refine (F2.out _ v HV.out HE.out).mono ?_
      rintro e w15 ⟨rfl, hb15⟩
      have hv15 := HV.out.trans (hb15.mono HV.out.size)
      go_wp2_with fail
      refine (sameEnts_any _ _ _ _ _ _ fs fs _ hmy (Hy.out.below hb15) hmz (Hz.out.below hb15) (by omega)).mono ?_
      rintro e w16 ⟨rfl, hb16⟩
      rw [decide_eq_true (rfl : fs = fs)]
      go_wp2
      go_ret
      exact ⟨rfl, hv15.trans (hb16.mono hv15.size)⟩

set_option maxRecDepth 400000 in
set_option maxHeartbeats 3200000 in
theorem foldTells_good (ea : Nat → Addr) (a : Option Addr) (n cap : Nat) (es : List Ent) (s : List UInt8) (w : World) (hG : GlobC w ea) (hT : TxtEnv w) (hn : es.length = n) (hr : RowAt w a (encEnts es)) (hm : n ≤ 201)
    (h1 : n ≤ 60 ∨ n = 201) (h2 : s.length ≤ 600 ∨ s.length = 4001) (h : (chk es).1 = 0) :
    Calls Tryz.prog 3 #[.slice a n cap, .string ⟨s.toArray⟩] w fun e w' => e = .returned (.bool true) ∧ Below w.heap.size w w' := by
  have K0 := Lib.hid (folded_any ea w (hG.glob.sub (by simp)) hT)
  have KH := Lib.hid (fun (W : World) (hb : Below w.heap.size w W) => histFault_any a n cap es W hn (hr.below hb) (by omega))
  have KR := Lib.hid (fun (W : World) (hb : Below w.heap.size w W) => foldRead_any ea s W (by omega) ((hG.below hb).glob.sub (by simp)) (hT.below hb))
  have RR := Lib.hid (fun (W : World) => readHist_any s W (by omega))
  have F1 := Lib.hid (fun (W : World) (v : Value) (hb : Below w.heap.size w W) (hE : ErrIs ea W v (chk es).1 (chk es).2) => faulted2_sm ea v _ _ W (hG.below hb) hE (chk_le11 es))
  have F2 := Lib.hid (fun (W : World) (v : Value) (hb : Below w.heap.size w W) (hE : ErrIs ea W v (foldR s).1.1 (foldR s).1.2) => faulted2_sm ea v _ _ W (hG.below hb) hE (foldR_le s))
  have KL := Lib.hid (fun (W : World) (hb : Below w.heap.size w W) => last_any ea a n cap es W ((hG.below hb).glob.sub (by simp)) hn (hr.below hb) (by omega) h)
  have KT := Lib.hid (fun (W : World) (hb : Below w.heap.size w W) => total_any ea a n cap es W ((hG.below hb).glob.sub (by simp)) hn (hr.below hb) (by omega) h)
  have KX := Lib.hid (fun (W : World) (hb : Below w.heap.size w W) => histText_any ea a n cap es W ((hG.below hb).glob.sub (by simp)) (hT.below hb) hn (hr.below hb) (by omega) h)
  have hsb := fun k => sum_take_bound h k
  rw [lastF_lastL h] at KL KT hsb
  have RL := Lib.hid (fun (W : World) (hb : Below w.heap.size w W) => lastOf_any a n cap es W hn (hr.below hb) (by omega))
  have RT := Lib.hid (fun (W : World) (hb : Below w.heap.size w W) => totalOf_any a n cap es W hn (hr.below hb) (by omega) hsb)
  have RX := Lib.hid (fun (W : World) (hb : Below w.heap.size w W) => historyText_any a n cap es W hn (hr.below hb) (by omega) h)
  have hlen := lastL_length es 16
  have hc200 := chk_len h
  have dn : decide ((60 : Int) < (n : Int)) = false := by simp; omega
  have hz0 := chk_zero h
  rw [hz0] at KH F1
  simp only [Int.cast_ofNat_Int] at KH F1
  generalize lastL es 16 = L at *
  generalize histT es = tx at *
  have ds : decide ((600 : Int) < (s.length : Int)) = false ∨ ((600 : Int) < (s.length : Int) ∧ ((s.length : Int) != 4001) = false) := by simp; omega
  generalize hq3 : ((foldR s).1.1 : Int) = c2 at *
  generalize hq4 : (foldR s).1.2 = p2 at *
  have RR2 : Hid (∀ W : World, Calls Tryz.prog 18 #[.string ⟨s.toArray⟩] W fun e w' => ∃ ao n co, e = .returned (.tuple #[.slice ao n co, .agg #[.int .i64 c2, .int .i64 p2]]) ∧ RowAt w' ao (encEnts (foldR s).2) ∧ (foldR s).2.length = n ∧ n ≤ co ∧ Below W.heap.size W w') := fun W => by
    have := RR.out W
    unfold RHPost at this
    rw [hq3, hq4] at this
    exact this
  have hfl := foldR_len s
  generalize hq5 : (foldR s).2 = fs at *
  clear RR
  clear hsb hz0 hq3 hq4 hq5 hn hr hG hT h h1 h2
  rcases ds with ds | ⟨ds, ds2⟩
  all_goals
    go_enter Tryz.func3, Tryz.ntmps3
    go_wp2_with fail
    refine K0.out.mono ?_
    rintro e w1 ⟨rfl, hv1⟩
    go_wp2_with fail
    refine (KH.out _ hv1).mono ?_
    rintro e w2 ⟨rfl, hb2⟩
    have hv2 := hv1.trans (hb2.mono hv1.size)
    have bF := Blok.new w2 25 #[.int .i64 0, .int .i64 (-1)]
    have hvF := hv2.alloc hv2.size (.cells #[.int .i64 0, .int .i64 (-1)] 25)
    have hFw := hv2.size
    go_wp2_with fail
    generalize hWF : w2.alloc (.cells #[.int .i64 0, .int .i64 (-1)] 25) = wF at *
    generalize w2.heap.size = F at *
    clear hb2 hWF hv1 hv2
    refine (KL.out _ hvF).mono ?_
    rintro e w3 ⟨g, co, rfl, hgw, hco, hB, hb3⟩
    have hv3 := hvF.trans (hb3.mono hvF.size)
    have bF := bF.kept hb3
    go_wp2_with fail
    refine (KT.out _ hv3).mono ?_
    rintro e w4 ⟨rfl, hb4⟩
    have hv4 := hv3.trans (hb4.mono hv3.size)
    have bF := bF.kept hb4
    go_wp2_with fail
    refine (KX.out _ hv4).mono ?_
    rintro e w5 ⟨rfl, hb5⟩
    have hv5 := hv4.trans (hb5.mono hv4.size)
    have bF := bF.kept hb5
    have hB := (hB.kept hb4).kept hb5
    clear hb3 hb4 hb5
    have k0 := bF.cell 0 rfl
    have k1 := bF.cell 1 rfl
    go_wp2_with fail
    refine (F1.out _ .nilIface hv5 (Or.inl ⟨rfl, (errV_zero ea).symm⟩)).mono ?_
    rintro e w6 ⟨rfl, hb6⟩
    have hv6 := hv5.trans (hb6.mono hv5.size)
    have bF := bF.kept hb6
    have hB := hB.kept hb6
    clear hb6 k0 k1
    have k0 := bF.cell 0 rfl
    have k1 := bF.cell 1 rfl
    go_wp2_with fail
    refine (F1.out _ .nilIface hv6 (Or.inl ⟨rfl, (errV_zero ea).symm⟩)).mono ?_
    rintro e w7 ⟨rfl, hb7⟩
    have hv7 := hv6.trans (hb7.mono hv6.size)
    have bF := bF.kept hb7
    have hB := hB.kept hb7
    clear hb7 k0 k1
    have k0 := bF.cell 0 rfl
    have k1 := bF.cell 1 rfl
    go_wp2_with fail
    refine (F1.out _ .nilIface hv7 (Or.inl ⟨rfl, (errV_zero ea).symm⟩)).mono ?_
    rintro e w8 ⟨rfl, hb8⟩
    have hv8 := hv7.trans (hb8.mono hv7.size)
    have bF := bF.kept hb8
    have hB := hB.kept hb8
    clear hb8 k0 k1
    have k0 := bF.cell 0 rfl
    go_wp2_with fail
    refine (RL.out _ hv8).mono ?_
    rintro e w9 ⟨ax, cx, rfl, hrx, hcx, hb9⟩
    have hv9 := hv8.trans (hb9.mono hv8.size)
    have bF := bF.kept hb9
    have hB := hB.kept hb9
    go_wp2_with fail
    refine (sameInts_any (some ⟨g, 0, none⟩) ax 16 co 16 cx L L _ hlen hB.row hlen hrx (by omega)).mono ?_
    rintro e w10 ⟨rfl, hb10⟩
    rw [decide_eq_true (rfl : L = L)]
    have hv10 := hv9.trans (hb10.mono hv9.size)
    have bF := bF.kept hb10
    go_wp2_with fail
    refine (RT.out _ hv10).mono ?_
    rintro e w11 ⟨rfl, hb11⟩
    have hv11 := hv10.trans (hb11.mono hv10.size)
    have bF := bF.kept hb11
    go_wp2_with fail
    refine (RX.out _ hv11).mono ?_
    rintro e w12 ⟨rfl, hb12⟩
    have hv12 := hv11.trans (hb12.mono hv11.size)
    have bF := bF.kept hb12
    clear hb9 hb10 hb11 hb12 hrx hB k0
    go_wp2_with fail
    refine (KR.out _ hv12).mono ?_
    rintro e w13 ⟨v, ay, my, cy, rfl, hE, hry, hmy, hcy, hb13⟩
    have hv13 := hv12.trans (hb13.mono hv12.size)
    have bF := bF.kept hb13
    go_wp2_with fail
    refine (RR2.out _).mono ?_
    rintro e w14 ⟨az, mz, cz, rfl, hrz, hmz, hcz, hb14⟩
    have hv14 := hv13.trans (hb14.mono hv13.size)
    have bF := bF.kept hb14
    have k0 := bF.cell 0 rfl
    have k1 := bF.cell 1 rfl
    have g0 := bF.frozen 0
    have g1 := bF.frozen 1
    have hN : ∀ o, 2 ≤ o → w14.cell? ⟨F, o, none⟩ = none := fun o ho => by
      simp only [World.cell?, show w14.heap[F]? = _ from bF]
      match o, ho with
      | m + 2, _ => simp
    have HE := Lib.hid ((hE.below hb14).set2 k1 (.int .i64 c2) (.int .i64 p2))
    have Hy := Lib.hid ((hry.below hb14).setFlt2 hN (.int .i64 c2) (.int .i64 p2))
    have Hz := Lib.hid (hrz.setFlt2 hN (.int .i64 c2) (.int .i64 p2))
    have HV := Lib.hid ((hv14.setCell (p := ⟨F, 0, none⟩) hFw (.int .i64 c2)).setCell (p := ⟨F, 1, none⟩) hFw (.int .i64 p2))
    clear hE hry hrz hN
    go_wp2_with fail
    refine (F2.out _ v HV.out HE.out).mono ?_
    rintro e w15 ⟨rfl, hb15⟩
    have hv15 := HV.out.trans (hb15.mono HV.out.size)
    go_wp2_with fail
    refine (sameEnts_any _ _ _ _ _ _ fs fs _ hmy (Hy.out.below hb15) hmz (Hz.out.below hb15) (by omega)).mono ?_
    rintro e w16 ⟨rfl, hb16⟩
    rw [decide_eq_true (rfl : fs = fs)]
    go_wp2
    go_ret
    exact ⟨rfl, hv15.trans (hb16.mono hv15.size)⟩

theorem walk_FoldTells (ea : Nat → Addr) (a : Option Addr) (n cap : Nat) (es : List Ent) (s : List UInt8) (w : World) (hG : GlobC w ea) (hT : TxtEnv w)
    (hn : es.length = n) (hr : RowAt w a (encEnts es)) (_hc : n ≤ cap) (hb : n ≤ 4611686018427387904) (hs : s.length ≤ maxLen) :
    Calls Tryz.prog 3 #[.slice a n cap, .string ⟨s.toArray⟩] w fun e w' => e = .returned (.bool true) ∧ Below w.heap.size w w' := by
  by_cases h : (60 < n ∧ n ≠ 201) ∨ (600 < s.length ∧ s.length ≠ 4001)
  · exact foldTells_long ea a n cap s w (hG.glob.sub (by simp)) hT hb hs h
  · by_cases h0 : (chk es).1 = 0
    · exact foldTells_good ea a n cap es s w hG hT hn hr (by omega) (by omega) (by omega) h0
    · exact foldTells_bad ea a n cap es s w hG hT hn hr (by omega) (by omega) (by omega) h0
end Go.Proofs.YtbfocagicagehaaGreatDoor
