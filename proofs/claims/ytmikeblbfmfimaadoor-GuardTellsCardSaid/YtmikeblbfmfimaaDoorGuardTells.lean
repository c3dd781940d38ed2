/- GuardTells: the law's walk. -/
import Derived.Test.YtmikeblbfmfimaaDoorRefGuard
import Derived.Test.YtmikeblbfmfimaaDoorGuardLaw
import Derived.Test.YtmikeblbfmfimaaDoorCoded
namespace Go.Proofs.YtmikeblbfmfimaaDoor
open Go.RowKit

theorem faulted1_same (ea : Nat → Addr) (v : Value) (code : Nat) (pl : Int) (w : World) (hG : GlobC w ea) (hE : ErrIs ea w v code pl) (h11 : code ≤ 11) :
    Calls Tryd.prog 25 #[v, .agg #[.int .i64 code, .int .i64 pl]] w fun e w' => e = .returned (.bool true) ∧ Below w.heap.size w w' :=
  (faulted1_any ea v code pl code pl w hG hE h11).mono fun e w' ⟨h1, h2⟩ => ⟨by rw [h1]; simp, h2⟩
theorem coded1_same (ea : Nat → Addr) (v : Value) (code : Nat) (w : World) (hG : GlobC w ea) (hE : ErrIs ea w v code (-1)) (h11 : code ≤ 11) :
    Calls Tryd.prog 12 #[v, .int .i64 code] w fun e w' => e = .returned (.bool true) ∧ Below w.heap.size w w' :=
  (coded1_any ea v code (-1) code w hG hE h11).mono fun e w' ⟨h1, h2⟩ => ⟨by rw [h1]; simp, h2⟩

set_option maxRecDepth 100000 in
theorem guardTells_long (ea : Nat → Addr) (a : Option Addr) (n cap : Nat) (long node tick : Int) (w : World) (hG : GlobC w ea) (hc : n ≤ 4611686018427387904) (h : 40 < n) :
    Calls Tryd.prog 6 #[.slice a n cap, .int .i64 long, .int .i64 node, .int .i64 tick] w fun e w' => e = .returned (.bool true) ∧ Below w.heap.size w w' := by
  have C := Lib.hid (guarded_any ea w hG)
  clear hG
  go_enter Tryd.func6, Tryd.ntmps6
  go_wp2_with fail
  refine C.out.mono ?_
  rintro e w1 ⟨rfl, hb⟩
  go_wp2
  go_ret
  exact ⟨rfl, hb⟩

set_option maxRecDepth 400000 in
set_option maxHeartbeats 1600000 in
theorem guardTells_law (ea : Nat → Addr) (a : Option Addr) (n cap : Nat) (l : List Int) (long node tick : Int) (w : World) (hG : GlobC w ea) (hn : l.length = n) (hr : RowAt w a (encInts l)) (h : n ≤ 40) :
    Calls Tryd.prog 6 #[.slice a n cap, .int .i64 long, .int .i64 node, .int .i64 tick] w fun e w' => e = .returned (.bool true) ∧ Below w.heap.size w w' := by
  have C1 := Lib.hid (guarded_any ea w hG)
  have KT := Lib.hid (fun (W : World) => tickError_any long tick W)
  have KS := Lib.hid (fun (W : World) (hb : Below w.heap.size w W) => guardSlot_any ea long tick W ((hG.below hb).glob.sub (by simp)))
  have KP := Lib.hid (fun (W : World) (hb : Below w.heap.size w W) => pass_any ea a n cap l long node tick W ((hG.below hb).glob.sub (by simp)) hn (hr.below hb) (by omega))
  have RP := Lib.hid (fun (W : World) (hb : Below w.heap.size w W) => passFault_any a n cap l long node tick W hn (hr.below hb) (by omega))
  have KW := Lib.hid (fun (W : World) (hb : Below w.heap.size w W) => wait_any ea a n cap l long node tick W ((hG.below hb).glob.sub (by simp)) hn (hr.below hb) (by omega))
  have RW := Lib.hid (fun (W : World) (hb : Below w.heap.size w W) => refWait_any a n cap l long node tick W hn (hr.below hb) (by omega))
  have FC := Lib.hid (fun (W : World) (v : Value) (hb : Below w.heap.size w W) (hE : ErrIs ea W v (slotE long tick) (-1)) => coded1_same ea v _ W (hG.below hb) hE (slotE_le long tick))
  have F1 := Lib.hid (fun (W : World) (v : Value) (hb : Below w.heap.size w W) (hE : ErrIs ea W v (passF l long node tick).1 (passF l long node tick).2) => faulted1_same ea v _ _ W (hG.below hb) hE (passF_le l long node tick))
  have F2 := Lib.hid (fun (W : World) (v : Value) (hb : Below w.heap.size w W) (hE : ErrIs ea W v (waitF l long node tick).2.1 (waitF l long node tick).2.2) => faulted1_same ea v _ _ W (hG.below hb) hE (waitF_le l long node tick))
  generalize hq1 : ((passF l long node tick).1 : Int) = c at *
  generalize hq2 : (passF l long node tick).2 = pl at *
  generalize hq3 : ((waitF l long node tick).2.1 : Int) = d at *
  generalize hq4 : (waitF l long node tick).2.2 = dl at *
  generalize hq5 : (waitF l long node tick).1 = x at *
  clear hq1 hq2 hq3 hq4 hq5 hn hr hG
  by_cases h0 : slotE long tick = 0
  · obtain ⟨h1, h2, h3, h4⟩ := slotE_ok h0
    have hlz : (long == 0) = false := by simp; omega
    have hN : slotN long tick = tick / long := by rw [slotN, if_pos h0]
    obtain ⟨s, hs, hs1⟩ := slot_nat h0
    have hd1 : 0 ≤ tick / long := by omega
    have hd2 : tick / long ≤ 1000000 := by omega
    rw [h0] at KT KS FC
    rw [hN] at KS
    simp only [Int.cast_ofNat_Int] at KT KS FC
    clear h0 hN hs
    go_enter Tryd.func6, Tryd.ntmps6
    go_wp2_with fail
    refine C1.out.mono ?_
    rintro e w1 ⟨rfl, hb1⟩
    go_wp2_with (go_at_call 34; refine (KT.out _).mono ?_; rintro e w2 ⟨rfl, rfl⟩)
    refine (KS.out _ hb1).mono ?_
    rintro e w3 ⟨v3, rfl, hE3, hb3⟩
    have hv3 := onto hb1 hb3
    go_wp2_with fail
    refine (FC.out _ v3 hv3 hE3).mono ?_
    rintro e w4 ⟨rfl, hb4⟩
    have hv4 := onto hv3 hb4
    go_wp2_with fail
    refine (KP.out _ hv4).mono ?_
    rintro e w5 ⟨v5, rfl, hE5, hb5⟩
    have hv5 := onto hv4 hb5
    go_wp2_with fail
    refine (RP.out _ hv5).mono ?_
    rintro e w6 ⟨rfl, hb6⟩
    have hv6 := onto hv5 hb6
    go_wp2_with fail
    refine (F1.out _ v5 hv6 (hE5.below hb6)).mono ?_
    rintro e w7 ⟨rfl, hb7⟩
    have hv7 := onto hv6 hb7
    go_wp2_with fail
    refine (KW.out _ hv7).mono ?_
    rintro e w8 ⟨v8, rfl, hE8, hb8⟩
    have hv8 := onto hv7 hb8
    go_wp2_with fail
    refine (RW.out _ hv8).mono ?_
    rintro e w9 ⟨rfl, hb9⟩
    have hv9 := onto hv8 hb9
    have hE9 := (hE8.below hb9).below ((Below.refl _ _).alloc (Nat.le_refl _) (.cells #[.int .i64 d, .int .i64 dl] 39))
    go_wp2_with fail
    refine (F2.out _ v8 (hv9.alloc hv9.size _) hE9).mono ?_
    rintro e w10 ⟨rfl, hb10⟩
    go_wp2
    go_ret
    exact ⟨ret_bool (by simp), onto hv9 (past hb10)⟩
  · have h2 := (slotE_bad h0).1
    have hN : slotN long tick = 0 := by rw [slotN, if_neg h0]
    rw [h2] at KT KS FC
    rw [hN] at KS
    simp only [Int.cast_ofNat_Int] at KT KS FC
    clear h0 hN h2
    go_enter Tryd.func6, Tryd.ntmps6
    go_wp2_with fail
    refine C1.out.mono ?_
    rintro e w1 ⟨rfl, hb1⟩
    go_wp2_with (go_at_call 34; refine (KT.out _).mono ?_; rintro e w2 ⟨rfl, rfl⟩)
    refine (KS.out _ hb1).mono ?_
    rintro e w3 ⟨v3, rfl, hE3, hb3⟩
    have hv3 := onto hb1 hb3
    go_wp2_with fail
    refine (FC.out _ v3 hv3 hE3).mono ?_
    rintro e w4 ⟨rfl, hb4⟩
    have hv4 := onto hv3 hb4
    go_wp2_with fail
    refine (KP.out _ hv4).mono ?_
    rintro e w5 ⟨v5, rfl, hE5, hb5⟩
    have hv5 := onto hv4 hb5
    go_wp2_with fail
    refine (RP.out _ hv5).mono ?_
    rintro e w6 ⟨rfl, hb6⟩
    have hv6 := onto hv5 hb6
    go_wp2_with fail
    refine (F1.out _ v5 hv6 (hE5.below hb6)).mono ?_
    rintro e w7 ⟨rfl, hb7⟩
    have hv7 := onto hv6 hb7
    go_wp2_with fail
    refine (KW.out _ hv7).mono ?_
    rintro e w8 ⟨v8, rfl, hE8, hb8⟩
    have hv8 := onto hv7 hb8
    go_wp2_with fail
    refine (RW.out _ hv8).mono ?_
    rintro e w9 ⟨rfl, hb9⟩
    have hv9 := onto hv8 hb9
    have hE9 := (hE8.below hb9).below ((Below.refl _ _).alloc (Nat.le_refl _) (.cells #[.int .i64 d, .int .i64 dl] 39))
    go_wp2_with fail
    refine (F2.out _ v8 (hv9.alloc hv9.size _) hE9).mono ?_
    rintro e w10 ⟨rfl, hb10⟩
    go_wp2
    go_ret
    exact ⟨ret_bool (by simp), onto hv9 (past hb10)⟩

theorem walk_GuardTells (ea : Nat → Addr) (a : Option Addr) (n cap : Nat) (l : List Int) (long node tick : Int) (w : World) (hG : GlobC w ea)
    (hn : l.length = n) (hr : RowAt w a (encInts l)) (_hc : n ≤ cap) (hb : n ≤ 4611686018427387904) (_h1 : -9223372036854775808 ≤ long ∧ long ≤ 9223372036854775807) (_h2 : -9223372036854775808 ≤ node ∧ node ≤ 9223372036854775807) (_h3 : -9223372036854775808 ≤ tick ∧ tick ≤ 9223372036854775807) :
    Calls Tryd.prog 6 #[.slice a n cap, .int .i64 long, .int .i64 node, .int .i64 tick] w fun e w' => e = .returned (.bool true) ∧ Below w.heap.size w w' := by
  by_cases h : 40 < n
  · exact guardTells_long ea a n cap long node tick w hG hb h
  · exact guardTells_law ea a n cap l long node tick w hG hn hr (by omega)
end Go.Proofs.YtmikeblbfmfimaaDoor
