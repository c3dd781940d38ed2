/- CliqueTells: the law's walk. -/
import Derived.Test.YtmikeblbfmfimaaDoorCliqueFact
import Derived.Test.YtmikeblbfmfimaaDoorTallyOf
import Derived.Test.YtmikeblbfmfimaaDoorTallyOf2
import Derived.Test.YtmikeblbfmfimaaDoorCoded
namespace Go.Proofs.YtmikeblbfmfimaaDoor
open Go.RowKit

theorem faulted2_same (ea : Nat → Addr) (v : Value) (code : Nat) (pl : Int) (w : World) (hG : GlobC w ea) (hE : ErrIs ea w v code pl) (h11 : code ≤ 11) :
    Calls Tryd.prog 15 #[v, .agg #[.int .i64 code, .int .i64 pl]] w fun e w' => e = .returned (.bool true) ∧ Below w.heap.size w w' :=
  (faulted2_any ea v code pl code pl w hG hE h11).mono fun e w' ⟨h1, h2⟩ => ⟨by rw [h1]; simp, h2⟩

set_option maxRecDepth 100000 in
theorem cliqueTells_long (ea : Nat → Addr) (a : Option Addr) (n cap : Nat) (r : Int) (w : World) (hG : GlobC w ea) (hc : n ≤ 4611686018427387904) (h : 60 < n) (h2 : n ≠ 201) :
    Calls Tryd.prog 4 #[.slice a n cap, .int .i64 r] w fun e w' => e = .returned (.bool true) ∧ Below w.heap.size w w' := by
  have C := Lib.hid (cliqued_any ea w (hG.glob.sub (by simp)))
  have hz : ((n : Int) != 201) = true := by simp; omega
  clear hG h2
  go_enter Tryd.func4, Tryd.ntmps4
  go_wp2_with fail
  refine C.out.mono ?_
  rintro e w1 ⟨rfl, hb⟩
  go_wp2
  go_ret
  exact ⟨rfl, hb⟩

set_option maxRecDepth 400000 in
set_option maxHeartbeats 1600000 in
theorem cliqueTells_law (ea : Nat → Addr) (a : Option Addr) (n cap : Nat) (es : List Ent) (r : Int) (w : World) (hG : GlobC w ea) (hn : es.length = n) (hr : RowAt w a (encEnts es)) (hm : n ≤ cap) (hc : n ≤ 4611686018427387904) (h : n ≤ 60 ∨ n = 201) :
    Calls Tryd.prog 4 #[.slice a n cap, .int .i64 r] w fun e w' => e = .returned (.bool true) ∧ Below w.heap.size w w' := by
  have C1 := Lib.hid (cliqued_any ea w (hG.glob.sub (by simp)))
  have KK := Lib.hid (fun (W : World) (hb : Below w.heap.size w W) => check_any ea a n cap es W ((hG.below hb).glob.sub (by simp)) hn (hr.below hb) hc)
  have KH := Lib.hid (fun (W : World) (hb : Below w.heap.size w W) => histFault_any a n cap es W hn (hr.below hb) hc)
  have KT := Lib.hid (fun (W : World) (hb : Below w.heap.size w W) => tally_any ea a n cap es r W ((hG.below hb).glob.sub (by simp)) hn (hr.below hb) hm hc)
  have RT := Lib.hid (fun (W : World) (hb : Below w.heap.size w W) => tallyOf_any a n cap es r W hn (hr.below hb) hc)
  have KS := Lib.hid (fun (W : World) (hb : Below w.heap.size w W) => stays_any ea a n cap es r W ((hG.below hb).glob.sub (by simp)) hn (hr.below hb) hm hc)
  have F1 := Lib.hid (fun (W : World) (v : Value) (hb : Below w.heap.size w W) (hE : ErrIs ea W v (chk es).1 (chk es).2) => faulted2_same ea v _ _ W (hG.below hb) hE (chk_le es))
  have F2 := Lib.hid (fun (W : World) (v : Value) (hb : Below w.heap.size w W) (hE : ErrIs ea W v (tC r es) (chk es).2) => faulted2_same ea v _ _ W (hG.below hb) hE (tC_le r es))
  generalize hq1 : ((chk es).1 : Int) = c at *
  generalize hq2 : (chk es).2 = pl at *
  generalize hq3 : ((tC r es) : Int) = c2 at *
  generalize hq4 : tG r es = g at *
  generalize hq5 : tB r es = b at *
  clear hq1 hq2 hq3 hq4 hq5 hn hr hG
  rcases h with h | rfl
  all_goals
    go_enter Tryd.func4, Tryd.ntmps4
    go_wp2_with fail
    refine C1.out.mono ?_
    rintro e w1 ⟨rfl, hb1⟩
    go_wp2_with fail
    refine (KK.out _ hb1).mono ?_
    rintro e w2 ⟨v2, rfl, hE2, hb2⟩
    have hv2 := onto hb1 hb2
    go_wp2_with fail
    refine (KH.out _ hv2).mono ?_
    rintro e w3 ⟨rfl, hb3⟩
    have hv3 := onto hv2 hb3
    have hE2 := hE2.below hb3
    go_wp2_with fail
    refine (F1.out _ v2 hv3 hE2).mono ?_
    rintro e w4 ⟨rfl, hb4⟩
    have hv4 := onto hv3 hb4
    go_wp2_with fail
    refine (KT.out _ hv4).mono ?_
    rintro e w5 ⟨v5, rfl, hE5, hb5⟩
    have hv5 := onto hv4 hb5
    go_wp2_with fail
    refine (RT.out _ hv5).mono ?_
    rintro e w6 ⟨rfl, hb6⟩
    have hv6 := onto hv5 hb6
    have hE5 := hE5.below hb6
    go_wp2_with fail
    refine (KS.out _ (hv6.alloc hv6.size _)).mono ?_
    rintro e w7 ⟨v7, rfl, hE7, hb7⟩
    obtain ⟨k0, k1, g0, g1, z7, hb67⟩ := own2 hb7
    have hv7 := onto hv6 hb67
    have hE5 := hE5.below hb67
    go_wp2_with fail
    refine (F2.out _ v5 hv7 hE5).mono ?_
    rintro e w8 ⟨rfl, hb8⟩
    obtain ⟨k0, k1, g0, g1, z8⟩ := keep2 hb8 z7 k0 k1 g0 g1
    have hv8 := onto hv7 hb8
    have hE7 := hE7.below hb8
    go_wp2_with fail
    refine (F2.out _ v7 hv8 hE7).mono ?_
    rintro e w9 ⟨rfl, hb9⟩
    have hv9 := onto hv8 hb9
    go_wp2
    go_ret
    exact ⟨ret_bool (by simp), hv9⟩

theorem walk_CliqueTells (ea : Nat → Addr) (a : Option Addr) (n cap : Nat) (es : List Ent) (r : Int) (w : World) (hG : GlobC w ea)
    (hn : es.length = n) (hr : RowAt w a (encEnts es)) (hc : n ≤ cap) (hb : n ≤ 4611686018427387904) (_hx : -9223372036854775808 ≤ r ∧ r ≤ 9223372036854775807) :
    Calls Tryd.prog 4 #[.slice a n cap, .int .i64 r] w fun e w' => e = .returned (.bool true) ∧ Below w.heap.size w w' := by
  by_cases h : 60 < n ∧ n ≠ 201
  · exact cliqueTells_long ea a n cap r w hG hb h.1 h.2
  · exact cliqueTells_law ea a n cap es r w hG hn hr hc hb (by omega)
end Go.Proofs.YtmikeblbfmfimaaDoor
