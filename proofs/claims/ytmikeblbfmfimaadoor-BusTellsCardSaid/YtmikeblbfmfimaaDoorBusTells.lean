/- BusTells: the law's walk. -/
import Derived.Test.YtmikeblbfmfimaaDoorRefHear
import Derived.Test.YtmikeblbfmfimaaDoorBusLaw
import Derived.Test.YtmikeblbfmfimaaDoorSameTexts
import Derived.Test.YtmikeblbfmfimaaDoorCoded
namespace Go.Proofs.YtmikeblbfmfimaaDoor
open Go.RowKit

theorem faulted2_same (ea : Nat → Addr) (v : Value) (code : Nat) (pl : Int) (w : World) (hG : GlobC w ea) (hE : ErrIs ea w v code pl) (h11 : code ≤ 11) :
    Calls Tryd.prog 15 #[v, .agg #[.int .i64 code, .int .i64 pl]] w fun e w' => e = .returned (.bool true) ∧ Below w.heap.size w w' :=
  (faulted2_any ea v code pl code pl w hG hE h11).mono fun e w' ⟨h1, h2⟩ => ⟨by rw [h1]; simp, h2⟩

set_option maxRecDepth 100000 in
theorem busTells_guard (ea : Nat → Addr) (a a2 a3 : Option Addr) (n cap n2 cap2 n3 cap3 : Nat) (ss : List Snt) (long slot : Int) (w : World) (hG : GlobC w ea) (hc : n ≤ 4611686018427387904) (hn2 : ss.length = n2) (hr2 : RowAt w a2 (encSents ss)) (hc2 : n2 ≤ 4611686018427387904) (hc3 : n3 ≤ 4611686018427387904)
    (h : 40 < n ∨ longS ss = true ∨ 40 < n3) :
    Calls Tryd.prog 8 #[.slice a n cap, .int .i64 long, .int .i64 slot, .slice a2 n2 cap2, .slice a3 n3 cap3] w fun e w' => e = .returned (.bool true) ∧ Below w.heap.size w w' := by
  have C := Lib.hid (heard_any ea w (hG.glob.sub (by simp)))
  have KL := Lib.hid (fun (W : World) (hb : Below w.heap.size w W) => longSent_any a2 n2 cap2 ss W hn2 (hr2.below hb) hc2)
  clear hG hn2 hr2
  by_cases h1 : 40 < n
  · clear h
    go_enter Tryd.func8, Tryd.ntmps8
    go_wp2_with fail
    refine C.out.mono ?_
    rintro e w1 ⟨rfl, hb⟩
    go_wp2
    go_ret
    exact ⟨rfl, hb⟩
  · have hd1 : decide ((40 : Int) < (n : Int)) = false := by simp; omega
    cases hl : longS ss
    · have h3 : 40 < n3 := by simp [hl] at h; omega
      have HL := Lib.hid hl
      clear h hl
      go_enter Tryd.func8, Tryd.ntmps8
      go_wp2_with fail
      refine C.out.mono ?_
      rintro e w1 ⟨rfl, hb⟩
      go_wp2_with (go_at_call 48; refine (KL.out _ hb).mono ?_; rintro e w2 ⟨rfl, rfl⟩; rw [HL.out])
      go_ret
      exact ⟨rfl, hb⟩
    · have HL := Lib.hid hl
      clear h hl
      go_enter Tryd.func8, Tryd.ntmps8
      go_wp2_with fail
      refine C.out.mono ?_
      rintro e w1 ⟨rfl, hb⟩
      go_wp2_with (go_at_call 48; refine (KL.out _ hb).mono ?_; rintro e w2 ⟨rfl, rfl⟩; rw [HL.out])
      go_ret
      exact ⟨rfl, hb⟩

set_option maxRecDepth 400000 in
set_option maxHeartbeats 1600000 in
theorem busTells_law (ea : Nat → Addr) (a a2 a3 : Option Addr) (n cap n2 cap2 n3 cap3 : Nat) (l : List Int) (ss : List Snt) (lost : List Int) (long slot : Int) (w : World) (hG : GlobC w ea)
    (hn : l.length = n) (hr : RowAt w a (encInts l)) (hn2 : ss.length = n2) (hr2 : RowAt w a2 (encSents ss)) (hn3 : lost.length = n3) (hr3 : RowAt w a3 (encInts lost)) (h1 : n ≤ 40) (h2 : longS ss = false) (h3 : n3 ≤ 40) :
    Calls Tryd.prog 8 #[.slice a n cap, .int .i64 long, .int .i64 slot, .slice a2 n2 cap2, .slice a3 n3 cap3] w fun e w' => e = .returned (.bool true) ∧ Below w.heap.size w w' := by
  have h45 := longS_len h2
  have C := Lib.hid (heard_any ea w (hG.glob.sub (by simp)))
  have KL := Lib.hid (fun (W : World) (hb : Below w.heap.size w W) => longSent_any a2 n2 cap2 ss W hn2 (hr2.below hb) (by omega))
  have KA := Lib.hid (fun (W : World) (hb : Below w.heap.size w W) => asSent_any a2 n2 cap2 ss W hn2 (hr2.below hb) (by omega))
  have KH := Lib.hid (fun (W : World) (b2 : Option Addr) (c2 : Nat) (hb : Below w.heap.size w W) (hq : RowAt W b2 (encSents ss)) => hear_any ea a b2 a3 n cap n2 c2 n3 cap3 l ss lost long slot W ((hG.below hb).glob.sub (by simp)) hn (hr.below hb) (by omega) hn2 hq hn3 (hr3.below hb) (by omega))
  have RH := Lib.hid (fun (W : World) (hb : Below w.heap.size w W) => hearOf_any a a2 a3 n cap n2 cap2 n3 cap3 l ss lost long slot W hn (hr.below hb) (by omega) hn2 (hr2.below hb) hn3 (hr3.below hb) (by omega))
  have F1 := Lib.hid (fun (W : World) (v : Value) (hb : Below w.heap.size w W) (hE : ErrIs ea W v (hearF l long slot ss lost).2.1 (hearF l long slot ss lost).2.2) => faulted2_same ea v _ _ W (hG.below hb) hE (hearF_le l long slot ss lost))
  rw [h2] at KL
  generalize hq1 : ((hearF l long slot ss lost).2.1 : Int) = c at *
  generalize hq2 : (hearF l long slot ss lost).2.2 = pl at *
  generalize hq3 : (hearF l long slot ss lost).1 = L at *
  have hd1 : decide ((40 : Int) < (n : Int)) = false := by simp; omega
  have hd3 : decide ((40 : Int) < (n3 : Int)) = false := by simp; omega
  clear hq1 hq2 hq3 hn hr hG hn2 hr2 hn3 hr3 h2
  go_enter Tryd.func8, Tryd.ntmps8
  go_wp2_with fail
  refine C.out.mono ?_
  rintro e w1 ⟨rfl, hb1⟩
  go_wp2_with (go_at_call 48; refine (KL.out _ hb1).mono ?_; rintro e w2 ⟨rfl, rfl⟩)
  refine (KA.out _ hb1).mono ?_
  rintro e w3 ⟨b2, c2, rfl, hq, _, hb3⟩
  have hv3 := onto hb1 hb3
  go_wp2_with fail
  refine (KH.out _ b2 c2 hv3 hq).mono ?_
  rintro e w4 ⟨ax, mx, cx, v4, rfl, hrx, hmx, hmx2, hE4, hb4⟩
  have hv4 := onto hv3 hb4
  go_wp2_with fail
  refine (RH.out _ hv4).mono ?_
  rintro e w5 ⟨ay, my, cy, rfl, hry, hmy, hb5⟩
  have hv5 := onto hv4 hb5
  have hbn : Below w5.heap.size w5 (w5.alloc (.cells #[.int .i64 c, .int .i64 pl] 39)) := (Below.refl _ _).alloc (Nat.le_refl _) _
  have hE := (hE4.below hb5).below hbn
  have hrx := (hrx.below hb5).below hbn
  have hry := hry.below hbn
  go_wp2_with fail
  refine (F1.out _ v4 (onto hv5 hbn) hE).mono ?_
  rintro e w6 ⟨rfl, hb6⟩
  have hrx := hrx.below hb6
  have hry := hry.below hb6
  go_wp2_with fail
  refine (sameTexts_any _ _ _ _ _ _ L L _ hmx hrx hmy hry hmx2).mono ?_
  rintro e w7 ⟨rfl, hb7⟩
  rw [decide_eq_true (rfl : L = L)]
  go_wp2
  go_ret
  exact ⟨rfl, onto (onto (onto hv5 hbn) hb6) hb7⟩

theorem walk_BusTells (ea : Nat → Addr) (a : Option Addr) (n cap : Nat) (l : List Int) (long slot : Int) (a2 : Option Addr) (n2 cap2 : Nat) (ss : List Snt) (a3 : Option Addr) (n3 cap3 : Nat) (lost : List Int) (w : World) (hG : GlobC w ea)
    (hn : l.length = n) (hr : RowAt w a (encInts l)) (_hc : n ≤ cap) (hb : n ≤ 4611686018427387904) (_h1 : -9223372036854775808 ≤ long ∧ long ≤ 9223372036854775807) (_h2 : -9223372036854775808 ≤ slot ∧ slot ≤ 9223372036854775807)
    (hn2 : ss.length = n2) (hr2 : RowAt w a2 (encSents ss)) (_hc2 : n2 ≤ cap2) (hb2 : n2 ≤ 4611686018427387904) (hn3 : lost.length = n3) (hr3 : RowAt w a3 (encInts lost)) (_hc3 : n3 ≤ cap3) (hb3 : n3 ≤ 4611686018427387904) :
    Calls Tryd.prog 8 #[.slice a n cap, .int .i64 long, .int .i64 slot, .slice a2 n2 cap2, .slice a3 n3 cap3] w fun e w' => e = .returned (.bool true) ∧ Below w.heap.size w w' := by
  by_cases h : 40 < n ∨ longS ss = true ∨ 40 < n3
  · exact busTells_guard ea a a2 a3 n cap n2 cap2 n3 cap3 ss long slot w hG hb hn2 hr2 hb2 hb3 h
  · have h2 : longS ss = false := by
      cases hl : longS ss
      · rfl
      · exact absurd (Or.inr (Or.inl hl)) h
    exact busTells_law ea a a2 a3 n cap n2 cap2 n3 cap3 l ss lost long slot w hG hn hr hn2 hr2 hn3 hr3 (by omega) h2 (by omega)
end Go.Proofs.YtmikeblbfmfimaaDoor
