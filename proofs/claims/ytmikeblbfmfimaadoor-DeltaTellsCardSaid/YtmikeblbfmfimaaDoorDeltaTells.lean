/- DeltaTells: the law's walk. -/
import Derived.Test.YtmikeblbfmfimaaDoorRefDelta
import Derived.Test.YtmikeblbfmfimaaDoorDeltaFact
import Derived.Test.YtmikeblbfmfimaaDoorCoded
namespace Go.Proofs.YtmikeblbfmfimaaDoor
open Go.RowKit

theorem faulted2_same (ea : Nat → Addr) (v : Value) (code : Nat) (pl : Int) (w : World) (hG : GlobC w ea) (hE : ErrIs ea w v code pl) (h11 : code ≤ 11) :
    Calls Tryd.prog 15 #[v, .agg #[.int .i64 code, .int .i64 pl]] w fun e w' => e = .returned (.bool true) ∧ Below w.heap.size w w' :=
  (faulted2_any ea v code pl code pl w hG hE h11).mono fun e w' ⟨h1, h2⟩ => ⟨by rw [h1]; simp, h2⟩

theorem agreeN_comm : ∀ (l m : List Ent), agreeN l m = agreeN m l
  | [], m => by cases m <;> simp [agreeN]
  | _ :: _, [] => by simp [agreeN]
  | e :: r, f :: s => by
    rw [agreeN, agreeN]
    by_cases h : e = f
    · rw [if_pos h, if_pos h.symm, agreeN_comm r s]
    · rw [if_neg h, if_neg (fun e => h e.symm)]

/-- Entries abide where a fault's block is written: it has two cells alone. -/
theorem RowAt.setFlt {w : World} {a : Option Addr} {es : List Ent} {B : Nat} (h : RowAt w a (encEnts es)) (hN : ∀ o, 2 ≤ o → w.cell? ⟨B, o, none⟩ = none) (x y : Value) :
    RowAt ((w.setCell ⟨B, 0, none⟩ x).setCell ⟨B, 1, none⟩ y) a (encEnts es) := by
  cases es with
  | nil => exact Or.inl rfl
  | cons e r =>
    refine h.set2 (fun b off ea => ?_) x y
    subst ea
    obtain ⟨b', off', e', _, _, _, c2, _⟩ := h.ent 0 (by simp)
    injection e' with e'
    injection e' with e1 e2
    subst e1 e2
    rintro rfl
    rw [hN _ (by omega)] at c2
    cases c2

set_option maxRecDepth 100000 in
theorem deltaTells_long (ea : Nat → Addr) (a a2 : Option Addr) (n cap n2 cap2 : Nat) (hv most : Int) (w : World) (hG : GlobC w ea) (hc : n ≤ 4611686018427387904) (hc2 : n2 ≤ 4611686018427387904) (h : (60 < n ∧ n ≠ 201) ∨ 60 < n2) :
    Calls Tryd.prog 7 #[.slice a n cap, .slice a2 n2 cap2, .int .i64 hv, .int .i64 most] w fun e w' => e = .returned (.bool true) ∧ Below w.heap.size w w' := by
  have C := Lib.hid (missed_any ea w (hG.glob.sub (by simp)))
  clear hG
  by_cases h1 : 60 < n ∧ n ≠ 201
  · obtain ⟨h1, h2⟩ := h1
    have hz : ((n : Int) != 201) = true := by simp; omega
    clear h h2
    go_enter Tryd.func7, Tryd.ntmps7
    go_wp2_with fail
    refine C.out.mono ?_
    rintro e w1 ⟨rfl, hb⟩
    go_wp2
    go_ret
    exact ⟨rfl, hb⟩
  · have h2 : 60 < n2 := by omega
    clear h
    by_cases h3 : 60 < n
    · obtain rfl : n = 201 := by omega
      clear h1
      go_enter Tryd.func7, Tryd.ntmps7
      go_wp2_with fail
      refine C.out.mono ?_
      rintro e w1 ⟨rfl, hb⟩
      go_wp2
      go_ret
      exact ⟨rfl, hb⟩
    · clear h1
      go_enter Tryd.func7, Tryd.ntmps7
      go_wp2_with fail
      refine C.out.mono ?_
      rintro e w1 ⟨rfl, hb⟩
      go_wp2
      go_ret
      exact ⟨rfl, hb⟩

set_option maxRecDepth 400000 in
set_option maxHeartbeats 3200000 in
theorem deltaTells_law (ea : Nat → Addr) (a a2 : Option Addr) (n cap n2 cap2 : Nat) (es fs : List Ent) (hv most : Int) (w : World) (hG : GlobC w ea) (hn : es.length = n) (hr : RowAt w a (encEnts es)) (hn2 : fs.length = n2) (hr2 : RowAt w a2 (encEnts fs))
    (hm : n ≤ cap) (h : n ≤ 60 ∨ n = 201) (h2 : n2 ≤ 60) :
    Calls Tryd.prog 7 #[.slice a n cap, .slice a2 n2 cap2, .int .i64 hv, .int .i64 most] w fun e w' => e = .returned (.bool true) ∧ Below w.heap.size w w' := by
  have C1 := Lib.hid (missed_any ea w (hG.glob.sub (by simp)))
  have hc : n ≤ 1000 := by omega
  have hc2 : n2 ≤ 1000 := by omega
  have KS := Lib.hid (fun (W : World) (hb : Below w.heap.size w W) => since_any ea a n cap es hv most W ((hG.below hb).glob.sub (by simp)) hn (hr.below hb) hm (by omega))
  have RS := Lib.hid (fun (W : World) (hb : Below w.heap.size w W) => sinceOf_any a n cap es hv most W hn (hr.below hb) (by omega))
  have KJ := Lib.hid (fun (W : World) (hb : Below w.heap.size w W) => join_any ea a a2 n cap n2 cap2 es fs W ((hG.below hb).glob.sub (by simp)) hn (hr.below hb) hn2 (hr2.below hb) hc hc2)
  have RJ := Lib.hid (fun (W : World) (hb : Below w.heap.size w W) => joinOf_any a a2 n cap n2 cap2 es fs W hn (hr.below hb) hn2 (hr2.below hb) hc hc2)
  have A1 := Lib.hid (fun (W : World) (hb : Below w.heap.size w W) => agree_any a a2 n cap n2 cap2 es fs W hn (hr.below hb) hn2 (hr2.below hb) (by omega))
  have A2 := Lib.hid (fun (W : World) (hb : Below w.heap.size w W) => agree_any a2 a n2 cap2 n cap fs es W hn2 (hr2.below hb) hn (hr.below hb) (by omega))
  have F1 := Lib.hid (fun (W : World) (v : Value) (hb : Below w.heap.size w W) (hE : ErrIs ea W v (sinceF es hv most).2.1 (sinceF es hv most).2.2) => faulted2_same ea v _ _ W (hG.below hb) hE (sinceF_le es hv most))
  have F2 := Lib.hid (fun (W : World) (v : Value) (hb : Below w.heap.size w W) (hE : ErrIs ea W v (joinF es fs).2.1 (joinF es fs).2.2) => faulted2_same ea v _ _ W (hG.below hb) hE (joinF_le es fs))
  rw [agreeN_comm fs es] at A2
  generalize hq1 : ((sinceF es hv most).2.1 : Int) = c at *
  generalize hq2 : (sinceF es hv most).2.2 = pl at *
  generalize hq3 : ((joinF es fs).2.1 : Int) = c2 at *
  generalize hq4 : (joinF es fs).2.2 = pl2 at *
  generalize hq5 : (sinceF es hv most).1 = L1 at *
  generalize hq6 : (joinF es fs).1 = L2 at *
  have HN := Lib.hid hn
  have HN2 := Lib.hid hn2
  have HR := Lib.hid hr
  have HR2 := Lib.hid hr2
  clear hq1 hq2 hq3 hq4 hq5 hq6 hn hr hG hn2 hr2
  have hd2 : decide ((60 : Int) < (n2 : Int)) = false := by simp; omega
  have hd1 : n = 201 ∨ decide ((60 : Int) < (n : Int)) = false := by simp; omega
  clear h
  rcases hd1 with rfl | hd1
  all_goals
    go_enter Tryd.func7, Tryd.ntmps7
    go_wp2_with fail
    refine C1.out.mono ?_
    rintro e w1 ⟨rfl, hb1⟩
    go_wp2_with fail
    refine (KS.out _ hb1).mono ?_
    rintro e w2 ⟨ax, mx, cx, v2, rfl, hrx, hmx, hmx2, hE2, hb2⟩
    have hv2 := onto hb1 hb2
    go_wp2_with fail
    refine (RS.out _ hv2).mono ?_
    rintro e w3 ⟨ay, my, cy, rfl, hry, hmy, _, hb3⟩
    have hv3 := onto hv2 hb3
    have hrx := hrx.below hb3
    have hE2 := hE2.below hb3
    have hbn : Below w3.heap.size w3 (w3.alloc (.cells #[.int .i64 c, .int .i64 pl] 39)) := (Below.refl _ _).alloc (Nat.le_refl _) _
    have hN3 : ∀ o, 2 ≤ o → (w3.alloc (.cells #[.int .i64 c, .int .i64 pl] 39)).cell? ⟨w3.heap.size, o, none⟩ = none := fun o ho => by
      rw [World.cell?_alloc_at _ _ _ _ rfl]; simp; omega
    have HN3 := Lib.hid hN3
    have hE2 := hE2.below hbn
    clear hN3
    go_wp2_with fail
    refine (F1.out _ v2 (onto hv3 hbn) hE2).mono ?_
    rintro e w4 ⟨rfl, hb4⟩
    obtain ⟨k0, k1, g0, g1, z4, hb34⟩ := own2 hb4
    have hN4 := Lib.hid (fun o (ho : 2 ≤ o) => (hb4.cell (p := ⟨w3.heap.size, o, none⟩) (by simp)).trans (HN3.out o ho))
    have hv4 := onto hv3 hb34
    have hrx := hrx.below hb34
    have hry := hry.below hb34
    clear hE2 hb4 HN3 hbn
    have hBw : w.heap.size ≤ w3.heap.size := hv3.size
    generalize w3.heap.size = B at *
    go_wp2_with fail
    refine (sameEnts_any _ _ _ _ _ _ L1 L1 _ hmx hrx hmy hry hmx2).mono ?_
    rintro e w5 ⟨rfl, hb5⟩
    rw [decide_eq_true (rfl : L1 = L1)]
    obtain ⟨k0, k1, g0, g1, z5⟩ := keep2 hb5 z4 k0 k1 g0 g1
    have hv5 := onto hv4 hb5
    have hN5 := Lib.hid (fun o (ho : 2 ≤ o) => (hb5.cell (p := ⟨B, o, none⟩) z4).trans (hN4.out o ho))
    go_wp2_with fail
    refine (KJ.out _ hv5).mono ?_
    rintro e w6 ⟨au, mu, cu, v6, rfl, hru, hmu, hmu2, hE6, hb6⟩
    obtain ⟨k0, k1, g0, g1, z6⟩ := keep2 hb6 z5 k0 k1 g0 g1
    have hv6 := onto hv5 hb6
    have hN6 := Lib.hid (fun o (ho : 2 ≤ o) => (hb6.cell (p := ⟨B, o, none⟩) z5).trans (hN5.out o ho))
    go_wp2_with fail
    refine (RJ.out _ hv6).mono ?_
    rintro e w7 ⟨az, mz, cz, rfl, hrz, hmz, _, hb7⟩
    obtain ⟨k0, k1, g0, g1, z7⟩ := keep2 hb7 z6 k0 k1 g0 g1
    have hv7 := onto hv6 hb7
    have hN7 := Lib.hid (fun o (ho : 2 ≤ o) => (hb7.cell (p := ⟨B, o, none⟩) z6).trans (hN6.out o ho))
    have hE6 := (hE6.below hb7).set2 k1 (.int .i64 c2) (.int .i64 pl2)
    have hru := (hru.below hb7).setFlt hN7.out (.int .i64 c2) (.int .i64 pl2)
    have hrz := hrz.setFlt hN7.out (.int .i64 c2) (.int .i64 pl2)
    obtain ⟨W8, hW8, k0, k1, g0, g1, z8, hb8⟩ := set2 (x := .int .i64 c2) (y := .int .i64 pl2) z7 k0 k1 g0 g1
    have hv8 := hb8 w hv7 hBw
    rw [← hW8] at hE6 hru hrz
    clear hb8 hN4 hN5 hN6 hN7 hrx hry
    go_wp2_with fail
    rw [← hW8]
    refine (F2.out _ v6 hv8 hE6).mono ?_
    rintro e w9 ⟨rfl, hb9⟩
    have hv9 := onto hv8 hb9
    have hru := hru.below hb9
    have hrz := hrz.below hb9
    clear hW8
    go_wp2_with fail
    refine (sameEnts_any _ _ _ _ _ _ L2 L2 _ hmu hru hmz hrz hmu2).mono ?_
    rintro e w10 ⟨rfl, hb10⟩
    rw [decide_eq_true (rfl : L2 = L2)]
    have hv10 := onto hv9 hb10
    clear hru hrz hE6 k0 k1 g0 g1 hb9 hb10 hb1 hb2 hb3 hb34 hb5 hb6 hb7 hv2 hv3 hv4 hv5 hv6 hv7 hv8 hv9
    go_wp2
    go_loopw [14] (fun i wr => ∃ k : Nat, (k : Int) ≤ ((es.length : Nat) : Int) ∧ k ≤ n2 ∧ i = .int .i64 k ∧ Hid (agreeN (es.drop k) (fs.drop k) + k = agreeN es fs) ∧ Below w.heap.size w wr) (fun i _ => n2 - (intOf i).toNat)
    case atStart => exact ⟨0, by omega, Nat.zero_le _, rfl, rfl, hv10⟩
    case round =>
      obtain ⟨k, hk, hk2, rfl, HK, hb⟩ := hrel
      by_cases hlt : k < es.length
      · by_cases hlt2 : k < n2
        · have hk2' : k < fs.length := by have := HN2.out; omega
          obtain ⟨b, off, rfl, hbl, c0, c1, c2, c3⟩ := (HR.out.below hb).ent k hlt
          obtain ⟨b', off', rfl, hbl', d0, d1, d2, d3⟩ := (HR2.out.below hb).ent k hk2'
          have ht1 := Lib.hid (List.drop_eq_getElem_cons hlt)
          have ht2 := Lib.hid (List.drop_eq_getElem_cons hk2')
          have hi0 : (0 : Int) ≤ (k : Int) := by omega
          have hi1 := Int.ofNat_lt.2 hlt
          rw [HN.out] at hi1
          have hi2 : (k : Int) < (n2 : Int) := by omega
          by_cases he : es[k] = fs[k]
          · have HS : Hid (agreeN (es.drop (k + 1)) (fs.drop (k + 1)) + (k + 1) = agreeN es fs) := by unfold Hid at HK ⊢; rw [← HK, ht1.out, ht2.out, agreeN, if_pos he]; omega
            have hne : ∀ W : World, (binOp .neq 76 (.agg #[.int .i64 es[k].slot, .int .i64 es[k].frm, .bool es[k].heard, .int .i64 es[k].value]) (.agg #[.int .i64 fs[k].slot, .int .i64 fs[k].frm, .bool fs[k].heard, .int .i64 fs[k].value])).run Tryd.prog W = .ok (.bool false) W := fun W => by
              have h1 := run_ent_neq W es[k] fs[k]
              rw [show entEq es[k] fs[k] = true from decide_eq_true he] at h1
              exact h1
            have HLT := Lib.hid hlt
            clear ht1 ht2 he HK
            generalize es[k] = e at *
            generalize fs[k] = f at *
            clear hlt
            go_wp2
            go_quiet (fail)
            go_wp2
            go_roundw
            case rel => exact ⟨k + 1, by have := HLT.out; omega, by omega, by go_num, HS, below_drewN hb _⟩
            case measure => simp [intOf]; omega
          · have HS : Hid (agreeN es fs = k) := by unfold Hid at HK ⊢; rw [← HK, ht1.out, ht2.out, agreeN, if_neg he]; omega
            have hne : ∀ W : World, (binOp .neq 76 (.agg #[.int .i64 es[k].slot, .int .i64 es[k].frm, .bool es[k].heard, .int .i64 es[k].value]) (.agg #[.int .i64 fs[k].slot, .int .i64 fs[k].frm, .bool fs[k].heard, .int .i64 fs[k].value])).run Tryd.prog W = .ok (.bool true) W := fun W => by
              have h1 := run_ent_neq W es[k] fs[k]
              rw [show entEq es[k] fs[k] = false from decide_eq_false he] at h1
              exact h1
            clear ht1 ht2 he HK
            generalize es[k] = e at *
            generalize fs[k] = f at *
            clear hlt
            rw [HS.out] at A1 A2
            go_wp2
            go_quiet (fail)
            go_wp2_with fail
            refine (A1.out _ (below_drewN hb _)).mono ?_
            rintro e w11 ⟨rfl, hb11⟩
            go_wp2_with fail
            refine (A2.out _ (onto (below_drewN hb _) hb11)).mono ?_
            rintro e w12 ⟨rfl, hb12⟩
            go_wp2
            go_ret
            exact ⟨rfl, onto (onto (below_drewN hb _) hb11) hb12⟩
        · have HS : Hid (agreeN es fs = k) := by
            unfold Hid at HK ⊢
            have hq : fs.length ≤ k := by have := HN2.out; omega
            rw [← HK, List.drop_eq_nil_of_le hq]
            cases es.drop k <;> simp [agreeN]
          have hi2 : decide (k < n2) = false := by simp; omega
          have hi1 := Int.ofNat_lt.2 hlt
          rw [HN.out] at hi1
          clear HK hlt
          rw [HS.out] at A1 A2
          go_wp2_with fail
          refine (A1.out _ hb).mono ?_
          rintro e w11 ⟨rfl, hb11⟩
          go_wp2_with fail
          refine (A2.out _ (onto hb hb11)).mono ?_
          rintro e w12 ⟨rfl, hb12⟩
          go_wp2
          go_ret
          exact ⟨rfl, onto (onto hb hb11) hb12⟩
      · have HS : Hid (agreeN es fs = k) := by
          unfold Hid at HK ⊢
          rw [← HK, List.drop_eq_nil_of_le (by omega)]
          simp [agreeN]
        have hi1 : decide (k < es.length) = false := by simp; omega
        have hge := Int.ofNat_le.2 (Nat.le_of_not_lt hlt)
        rw [HN.out] at hi1 hge
        clear HK hlt hk
        rw [HS.out] at A1 A2
        go_wp2_with fail
        all_goals
          refine (A1.out _ hb).mono ?_
          rintro e w11 ⟨rfl, hb11⟩
          go_wp2_with fail
          refine (A2.out _ (onto hb hb11)).mono ?_
          rintro e w12 ⟨rfl, hb12⟩
          go_wp2
          go_ret
          exact ⟨rfl, onto (onto hb hb11) hb12⟩

theorem walk_DeltaTells (ea : Nat → Addr) (a : Option Addr) (n cap : Nat) (es : List Ent) (a2 : Option Addr) (n2 cap2 : Nat) (fs : List Ent) (hv most : Int) (w : World) (hG : GlobC w ea)
    (hn : es.length = n) (hr : RowAt w a (encEnts es)) (hc : n ≤ cap) (hb : n ≤ 4611686018427387904) (hn2 : fs.length = n2) (hr2 : RowAt w a2 (encEnts fs)) (_hc2 : n2 ≤ cap2) (hb2 : n2 ≤ 4611686018427387904) (_hx : -9223372036854775808 ≤ hv ∧ hv ≤ 9223372036854775807) (_hy : -9223372036854775808 ≤ most ∧ most ≤ 9223372036854775807) :
    Calls Tryd.prog 7 #[.slice a n cap, .slice a2 n2 cap2, .int .i64 hv, .int .i64 most] w fun e w' => e = .returned (.bool true) ∧ Below w.heap.size w w' := by
  by_cases h : (60 < n ∧ n ≠ 201) ∨ 60 < n2
  · exact deltaTells_long ea a a2 n cap n2 cap2 hv most w hG hb hb2 h
  · exact deltaTells_law ea a a2 n cap n2 cap2 es fs hv most w hG hn hr hn2 hr2 hc (by omega) (by omega)
end Go.Proofs.YtmikeblbfmfimaaDoor
