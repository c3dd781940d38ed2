/- ModeActs: the law's walk. -/
import Derived.Test.YtmikeblbfmfimaaDoorRefBoard
import Derived.Test.YtmikeblbfmfimaaDoorModeLaw
import Derived.Deep.RegionHeld3
namespace Go.Proofs.YtmikeblbfmfimaaDoor
open Go.RowKit

theorem faulted2_same (ea : Nat → Addr) (v : Value) (code : Nat) (pl : Int) (w : World) (hG : GlobC w ea) (hE : ErrIs ea w v code pl) (h11 : code ≤ 11) :
    Calls Tryd.prog 15 #[v, .agg #[.int .i64 code, .int .i64 pl]] w fun e w' => e = .returned (.bool true) ∧ Below w.heap.size w w' :=
  (faulted2_any ea v code pl code pl w hG hE h11).mono fun e w' ⟨h1, h2⟩ => ⟨by rw [h1]; simp, h2⟩
theorem coded2_same (ea : Nat → Addr) (code : Nat) (w : World) (hG : GlobC w ea) (h11 : code ≤ 11) :
    Calls Tryd.prog 59 #[errV ea code, .int .i64 code] w fun e w' => e = .returned (.bool true) ∧ Below w.heap.size w w' :=
  (coded2_any ea (errV ea code) code (-1) code w hG (ErrIs.bare ea w code) h11).mono fun e w' ⟨h1, h2⟩ => ⟨by rw [h1]; simp, h2⟩
theorem askE_le (l : List (Int × Int)) (now asked to : Int) : askE l now asked to ≤ 11 := by unfold askE; repeat (first | omega | split)

set_option maxRecDepth 100000 in
theorem modeActs_guard (ea : Nat → Addr) (a a2 : Option Addr) (n cap n2 cap2 : Nat) (w : World) (hG : GlobC w ea) (hc : n ≤ 4611686018427387904) (hc2 : n2 ≤ 4611686018427387904) (h : 20 < n ∨ 60 < n2) :
    Calls Tryd.prog 9 #[.slice a n cap, .slice a2 n2 cap2] w fun e w' => e = .returned (.bool true) ∧ Below w.heap.size w w' := by
  have C := Lib.hid (moded_any ea w hG)
  clear hG
  by_cases h1 : 20 < n
  all_goals
    go_enter Tryd.func9, Tryd.ntmps9
    go_wp2_with fail
    refine C.out.mono ?_
    rintro e w1 ⟨rfl, hb⟩
    go_wp2
    go_ret
    exact ⟨rfl, hb⟩

set_option maxRecDepth 100000 in
set_option maxHeartbeats 800000 in
theorem modeActs_bad (ea : Nat → Addr) (a a2 : Option Addr) (n cap n2 cap2 : Nat) (l : List (Int × Int)) (w : World) (hG : GlobC w ea) (hn : l.length = n) (hr : RowAt w a (encPairs l)) (h : n ≤ 20) (h2 : n2 ≤ 60) (hb : (newF l).1 ≠ 0) :
    Calls Tryd.prog 9 #[.slice a n cap, .slice a2 n2 cap2] w fun e w' => e = .returned (.bool true) ∧ Below w.heap.size w w' := by
  have C1 := Lib.hid (moded_any ea w hG)
  have KA := Lib.hid (fun (W : World) (hw : Below w.heap.size w W) => asPairs_any a n cap l W hn (hr.below hw) (by omega))
  have KN := Lib.hid (fun (W : World) (b2 : Option Addr) (c2 : Nat) (hw : Below w.heap.size w W) (hq : RowAt W b2 (encPairs l)) => new_bad ea b2 n c2 l W ((hG.below hw).glob.sub (by simp)) hn hq (by omega) hb)
  have RN := Lib.hid (fun (W : World) (hw : Below w.heap.size w W) => refNew_bad a n cap l W hn (hr.below hw) (by omega) hb)
  have F1 := Lib.hid (fun (W : World) (v : Value) (hw : Below w.heap.size w W) (hE : ErrIs ea W v (newF l).1 (newF l).2) => faulted2_same ea v _ _ W (hG.below hw) hE (newF_le l))
  have hp : (0 : Int) < ((newF l).1 : Int) := by omega
  generalize ((newF l).1 : Int) = c at *
  generalize (newF l).2 = pl at *
  clear hG hn hr hb
  go_enter Tryd.func9, Tryd.ntmps9
  go_wp2_with fail
  refine C1.out.mono ?_
  rintro e w1 ⟨rfl, hb1⟩
  go_wp2_with fail
  refine (KA.out _ hb1).mono ?_
  rintro e w2 ⟨b2, c2, rfl, hq, _, hb2⟩
  have hv2 := onto hb1 hb2
  go_wp2_with fail
  refine (KN.out _ b2 c2 hv2 hq).mono ?_
  rintro e w3 ⟨v3, rfl, hE3, hb3⟩
  have hv3 := onto hv2 hb3
  go_wp2_with fail
  refine (RN.out _ hv3).mono ?_
  rintro e w4 ⟨rfl, hb4⟩
  have hv4 := onto hv3 hb4
  have hbn : Below w4.heap.size w4 (w4.alloc (.cells #[.int .i64 c, .int .i64 pl] 39)) := (Below.refl _ _).alloc (Nat.le_refl _) _
  have hE := (hE3.below hb4).below hbn
  go_wp2_with fail
  refine (F1.out _ v3 (onto hv4 hbn) hE).mono ?_
  rintro e w5 ⟨rfl, hb5⟩
  go_wp2
  go_ret
  exact ⟨rfl, onto (onto hv4 hbn) hb5⟩

set_option maxRecDepth 400000 in
set_option maxHeartbeats 3200000 in
theorem modeActs_law (ea : Nat → Addr) (a a2 : Option Addr) (n cap n2 cap2 : Nat) (l : List (Int × Int)) (asks : List Int) (w : World) (hG : GlobC w ea) (hn : l.length = n) (hr : RowAt w a (encPairs l)) (hn2 : asks.length = n2) (hr2 : RowAt w a2 (encInts asks)) (h : n ≤ 16) (h2 : n2 ≤ 60) (hl : ∀ p ∈ l, pairB p = true) :
    Calls Tryd.prog 9 #[.slice a n cap, .slice a2 n2 cap2] w fun e w' => e = .returned (.bool true) ∧ Below w.heap.size w w' := by
  have C1 := Lib.hid (moded_any ea w hG)
  have KA := Lib.hid (fun (W : World) (hw : Below w.heap.size w W) => asPairs_any a n cap l W hn (hr.below hw) (by omega))
  have KN : Hid (∀ (W : World) (b2 : Option Addr) (c2 : Nat), Below w.heap.size w W → RowAt W b2 (encPairs l) → Calls Tryd.prog 54 #[.slice b2 n c2] W fun e w' => ∃ b, e = .returned (.tuple #[.pointer (some ⟨b, 0, none⟩), .nilIface]) ∧ W.heap.size ≤ b ∧ BoardAt w' b l 0 (-1) ∧ Below W.heap.size W w') := by
    intro W b2 c2 hw hrw
    refine (new_any ea b2 n c2 l W ((hG.below hw).glob.sub (by simp)) hn hrw (by omega)).mono ?_
    rintro e w' (⟨_, b, h1, h2, h3, h4⟩ | ⟨i, hi, hp, _⟩)
    · exact ⟨b, h1, h2, h3, h4⟩
    · have := hl _ (List.getElem_mem hi); rw [hp] at this; simp at this
  have RN := Lib.hid (fun (W : World) (hw : Below w.heap.size w W) => refNew_ok a n cap l W hn (hr.below hw) h hl)
  have QA := Lib.hid (fun (W : World) (bb mb : Nat) (now asked to : Int) (hw : Below w.heap.size w W) (hB : BoardM W bb mb l now asked) (hm : modeB now = true) (hk : asked = -1 ∨ 0 ≤ asked) => ask_m ea bb mb l now asked to W ((hG.below hw).glob.sub (by simp)) hB hl hm hk)
  have QR := Lib.hid (fun (W : World) (br : Nat) (now asked to : Int) (hw : Below w.heap.size w W) (hB : RB W br a n cap now asked) (hk : asked = -1 ∨ 0 ≤ asked) => refAsk_any br a n cap l now asked to W hB hn (hr.below hw) (by omega) hk)
  have FC := Lib.hid (fun (W : World) (now asked to : Int) (hw : Below w.heap.size w W) => coded2_same ea (askE l now asked to) W (hG.below hw) (askE_le l now asked to))
  have HN2 := Lib.hid hn2
  have hd1 : decide ((20 : Int) < (n : Int)) = false := by simp; omega
  have hd2 : decide ((60 : Int) < (n2 : Int)) = false := by simp; omega
  clear hG hn hr hl hn2
  go_enter Tryd.func9, Tryd.ntmps9
  go_wp2_with fail
  refine C1.out.mono ?_
  rintro e w1 ⟨rfl, hb1⟩
  go_wp2_with fail
  refine (KA.out _ hb1).mono ?_
  rintro e w2 ⟨b2, c2, rfl, hq, _, hb2⟩
  have hv2 := onto hb1 hb2
  go_wp2_with fail
  refine (KN.out _ b2 c2 hv2 hq).mono ?_
  rintro e w3 ⟨bb, rfl, hbb, ⟨mb, hB⟩, hb3⟩
  have hv3 := onto hv2 hb3
  have hbb0 : w.heap.size ≤ bb := Nat.le_trans hv2.size hbb
  have hblt : bb < w3.heap.size := (Array.getElem?_eq_some_iff.1 hB.1).1
  have hmlt : mb < w3.heap.size := hB.2.2.lt
  go_wp2_with fail
  refine (RN.out _ hv3).mono ?_
  rintro e w4 ⟨br, rfl, hbr, hR, hb4⟩
  have hv4 := onto hv3 hb4
  have hbr0 : w.heap.size ≤ br := Nat.le_trans hv3.size hbr
  have hne1 : bb ≠ br := by omega
  have hne2 : mb ≠ br := by omega
  have hB4 := hB.kept (below_grows hb4 none) (by simp) (by simp)
  have hbn : Below w4.heap.size w4 (w4.alloc (.cells #[.int .i64 0, .int .i64 (-1)] 39)) := (Below.refl _ _).alloc (Nat.le_refl _) _
  have hB5 := Lib.hid (hB4.kept (below_grows hbn none) (by simp) (by simp))
  have hR5 := Lib.hid (hR.below hbn)
  have hv5 := onto hv4 hbn
  clear hB hB4 hR hb1 hb2 hb3 hb4 hbn hq hbb hbr hblt hmlt hv2 hv3 hv4
  go_wp2
  go_loopw [10] (fun i wr => ∃ (k : Nat) (now asked : Int), k ≤ n2 ∧ i = .int .i64 k ∧ Hid (Kept l now asked) ∧ Hid (BoardM wr bb mb l now asked) ∧ Hid (RB wr br a n cap now asked) ∧ Below w.heap.size w wr) (fun i _ => n2 - (intOf i).toNat)
  case atStart => exact ⟨0, 0, -1, Nat.zero_le _, rfl, ⟨rfl, Or.inl rfl⟩, hB5, hR5, hv5⟩
  case round =>
    clear hB5 hR5 hv5
    obtain ⟨k, now, asked, hk, rfl, HK, HB, HRB, hb⟩ := hrel
    have HMD : Hid (modeB now = true) := HK.out.1
    have HKK : Hid (asked = -1 ∨ 0 ≤ asked) := by
      rcases HK.out.2 with h1 | ⟨h1, _⟩
      · exact Or.inl h1
      · exact Or.inr h1
    by_cases hlt : k < n2
    · have hkt : k < asks.length := by have := HN2.out; omega
      obtain ⟨b, off, rfl, hbl, c0⟩ := hr2.int k hkt
      have d0 := (hb.cell (p := ⟨b, off + k, none⟩) hbl).trans c0
      have hi0 : (0 : Int) ≤ (k : Int) := by omega
      have hi1 : (k : Int) < (n2 : Int) := by omega
      generalize asks[k] = x at *
      clear hkt
      by_cases hx : x = -2
      · subst hx
        have HKT := Lib.hid (kept_turn HK.out)
        have T1 := Lib.hid (turn_m bb mb l now asked wr HB.out HKK.out)
        go_wp2_with fail
        refine T1.out.mono ?_
        rintro e w7 ⟨rfl, hB7, hg7, hb7, hz7⟩
        have hR7 := HRB.out.kept hg7 (by simp; omega)
        have hv7 := hb.trans (hb7.mono hbb0)
        have T2 := Lib.hid (refTurn_any br a n cap now asked w7 hR7 HKK.out)
        have HB7 := Lib.hid hB7
        clear hB7 hR7 hg7 hb7 hz7
        go_wp2_with fail
        refine T2.out.mono ?_
        rintro e w8 ⟨rfl, hR8, hg8, hz8⟩
        have hB8 := HB7.out.kept hg8 (by simp; omega) (by simp; omega)
        have hv8 := hv7.grown hg8 hv7.size (fun j e => by injection e with e; omega)
        generalize turnNow now asked = nw at *
        have q1 : w8.cell? ⟨br, 1, none⟩ = some (.int .i64 nw) := cell_of_row w8 br 1 _ _ _ hR8
        have q2 : w8.cell? ⟨br, 2, none⟩ = some (.int .i64 (-1)) := cell_of_row w8 br 2 _ _ _ hR8
        have hD : BoardAt w8.drew bb l nw (-1) := ⟨mb, hB8⟩
        have HDM : Hid (BoardM w8.drew bb mb l nw (-1)) := hB8
        have HDR : Hid (RB w8.drew br a n cap nw (-1)) := hR8
        have hvD : Below w.heap.size w w8.drew := below_drewN hv8 1
        clear hB8 hR8
        go_wp2
        go_region_held3 (fun w' => w'.cell? ⟨br, 1, none⟩ = some (.int .i64 nw) ∧ w'.cell? ⟨br, 2, none⟩ = some (.int .i64 (-1))) (go_keep)
          (first
            | (go_at_call 62; (with_reducible refine (now_any bb l nw (-1) _ hD).mono ?_); rintro e w9 ⟨rfl, rfl⟩)
            | (go_at_call 63; (with_reducible refine (asked_any bb l nw (-1) _ hD).mono ?_); rintro e w9 ⟨rfl, rfl⟩))
        go_wp2
        go_roundw
        case rel => exact ⟨k + 1, nw, (-1), by omega, by go_num, HKT, HDM, HDR, hvD⟩
        case measure => simp [intOf]; omega
      · have hxb : (x == -2) = false := by simpa using hx
        have hbd : Below w.heap.size w wr.drew := below_drewN hb 1
        have hBd : BoardM wr.drew bb mb l now asked := HB.out
        have hRd : RB wr.drew br a n cap now asked := HRB.out
        have HKA := Lib.hid (kept_ask (to := x) HK.out)
        have A1 := Lib.hid (QA.out wr.drew bb mb now asked x hbd hBd HMD.out HKK.out)
        have HRd := Lib.hid hRd
        clear hx hBd hRd
        go_wp2
        go_region_held3 (fun w' => w'.cell? ⟨b, off + k, none⟩ = some (.int .i64 x)) (go_keep)
          (first
            | (go_at_call 60; (with_reducible refine A1.out.mono ?_); rintro e w7 ⟨rfl, hB7, hg7, hb7, hz7⟩; have hv7 := hbd.trans (hb7.mono hbb0); have k0 := (hv7.cell (p := ⟨b, off + k, none⟩) hbl).trans c0; have hR7 := HRd.out.kept hg7 (by simp; omega); have A2 := Lib.hid (QR.out w7 br now asked x hv7 hR7 HKK.out); have HB7 := Lib.hid hB7; clear hB7 hR7 hg7 hb7 hz7)
            | (go_at_call 61; (with_reducible refine A2.out.mono ?_); rintro e w8 ⟨rfl, hR8, hg8, hz8⟩; have hv8 := hv7.grown hg8 hv7.size (fun j e => by injection e with e; omega); have k0 := (hv8.cell (p := ⟨b, off + k, none⟩) hbl).trans c0; have HB8 := Lib.hid (HB7.out.kept hg8 (by simp; omega) (by simp; omega)); have HR8 := Lib.hid hR8; have A3 := Lib.hid (FC.out w8 now asked x hv8); clear hR8 hg8 hz8)
            | (go_at_call 59; (with_reducible refine A3.out.mono ?_); rintro e w9 ⟨rfl, hb9⟩; have hv9 := onto hv8 hb9; have k0 := (hv9.cell (p := ⟨b, off + k, none⟩) hbl).trans c0; have HB9 := Lib.hid (HB8.out.kept (below_grows hb9 none) (by simp) (by simp)); have HR9 := Lib.hid (HR8.out.below hb9)))
        generalize askTo l now asked x = ak at *
        have hB9 := HB9.out
        have hR9 := HR9.out
        have q1 : w9.cell? ⟨br, 1, none⟩ = some (.int .i64 now) := cell_of_row w9 br 1 _ _ _ hR9
        have q2 : w9.cell? ⟨br, 2, none⟩ = some (.int .i64 ak) := cell_of_row w9 br 2 _ _ _ hR9
        have hD : BoardAt w9.drew bb l now ak := ⟨mb, hB9⟩
        have HDM : Hid (BoardM w9.drew bb mb l now ak) := hB9
        have HDR : Hid (RB w9.drew br a n cap now ak) := hR9
        have hvD : Below w.heap.size w w9.drew := below_drewN hv9 1
        clear hB9 hR9
        go_wp2
        go_region_held3 (fun w' => w'.cell? ⟨br, 1, none⟩ = some (.int .i64 now) ∧ w'.cell? ⟨br, 2, none⟩ = some (.int .i64 ak)) (go_keep)
          (first
            | (go_at_call 62; (with_reducible refine (now_any bb l now ak _ hD).mono ?_); rintro e w9 ⟨rfl, rfl⟩)
            | (go_at_call 63; (with_reducible refine (asked_any bb l now ak _ hD).mono ?_); rintro e w9 ⟨rfl, rfl⟩))
        go_wp2
        go_roundw
        case rel => exact ⟨k + 1, now, ak, by omega, by go_num, HKA, HDM, HDR, hvD⟩
        case measure => simp [intOf]; omega
    · have CP := Lib.hid (boardCopy_any bb mb l now asked wr HB.out)
      go_wp2_with fail
      refine CP.out.mono ?_
      rintro e w7 ⟨cb, rfl, hC, hb7⟩
      have hR7 := HRB.out.below hb7
      have hv7 := onto hb hb7
      have q1 : w7.cell? ⟨br, 1, none⟩ = some (.int .i64 now) := cell_of_row w7 br 1 _ _ _ hR7
      have q2 : w7.cell? ⟨br, 2, none⟩ = some (.int .i64 asked) := cell_of_row w7 br 2 _ _ _ hR7
      have hD : BoardAt w7.drew cb l now asked := hC
      have hvD : Below w.heap.size w w7.drew := below_drewN hv7 1
      clear hC hR7
      go_wp2
      go_region_held3 (fun w' => w'.cell? ⟨br, 1, none⟩ = some (.int .i64 now) ∧ w'.cell? ⟨br, 2, none⟩ = some (.int .i64 asked)) (go_keep)
        (first
          | (go_at_call 62; (with_reducible refine (now_any cb l now asked _ hD).mono ?_); rintro e w9 ⟨rfl, rfl⟩)
          | (go_at_call 63; (with_reducible refine (asked_any cb l now asked _ hD).mono ?_); rintro e w9 ⟨rfl, rfl⟩))
      go_wp2
      go_ret
      exact ⟨rfl, hvD⟩

theorem walk_ModeActs (ea : Nat → Addr) (a : Option Addr) (n cap : Nat) (l : List (Int × Int)) (a2 : Option Addr) (n2 cap2 : Nat) (asks : List Int) (w : World) (hG : GlobC w ea)
    (hn : l.length = n) (hr : RowAt w a (encPairs l)) (_hc : n ≤ cap) (hb : n ≤ 4611686018427387904) (hn2 : asks.length = n2) (hr2 : RowAt w a2 (encInts asks)) (_hc2 : n2 ≤ cap2) (hb2 : n2 ≤ 4611686018427387904) :
    Calls Tryd.prog 9 #[.slice a n cap, .slice a2 n2 cap2] w fun e w' => e = .returned (.bool true) ∧ Below w.heap.size w w' := by
  by_cases h : 20 < n ∨ 60 < n2
  · exact modeActs_guard ea a a2 n cap n2 cap2 w hG hb hb2 h
  · by_cases h0 : (newF l).1 = 0
    · obtain ⟨h1, h2⟩ := newF_zero h0
      exact modeActs_law ea a a2 n cap n2 cap2 l asks w hG hn hr hn2 hr2 (by omega) (by omega) h2
    · exact modeActs_bad ea a a2 n cap n2 cap2 l w hG hn hr (by omega) (by omega) h0
end Go.Proofs.YtmikeblbfmfimaaDoor
