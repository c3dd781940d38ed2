/- GuardOne: the closed fact, the law's walk. -/
import Derived.Test.YtbhjjbfhncfbdaaDoorWait
import Derived.Test.YtbhjjbfhncfbdaaDoorCoded
namespace Go.Proofs.YtbhjjbfhncfbdaaDoor
open Go.RowKit

theorem pass_yes (ea : Nat → Addr) (a : Option Addr) (n cap : Nat) (l : List Int) (long node tick : Int) (w : World) (hg : Glob w ea [5, 7, 4, 2, 9]) (hn : l.length = n) (hr : RowAt w a (encInts l)) (hc : n ≤ 4611686018427387904) (h : (passF l long node tick).1 = 0) :
    Calls Tryd.prog 38 #[.slice a n cap, .int .i64 long, .int .i64 node, .int .i64 tick] w fun e w' => e = .returned .nilIface ∧ Below w.heap.size w w' :=
  (pass_any ea a n cap l long node tick w hg hn hr hc).mono fun e w' ⟨v, h1, h2, h3⟩ => by
    rw [h] at h2; obtain rfl := h2.nil; exact ⟨h1, h3⟩
theorem pass_no (ea : Nat → Addr) (a : Option Addr) (n cap : Nat) (l : List Int) (long node tick : Int) (w : World) (hg : Glob w ea [5, 7, 4, 2, 9]) (hn : l.length = n) (hr : RowAt w a (encInts l)) (hc : n ≤ 4611686018427387904) (h : (passF l long node tick).1 ≠ 0) :
    Calls Tryd.prog 38 #[.slice a n cap, .int .i64 long, .int .i64 node, .int .i64 tick] w fun e w' => ∃ t x, e = .returned (.iface t x) ∧ Below w.heap.size w w' :=
  (pass_any ea a n cap l long node tick w hg hn hr hc).mono fun e w' ⟨v, h1, h2, h3⟩ => by
    obtain ⟨t, x, rfl⟩ := h2.held h; exact ⟨t, x, h1, h3⟩

theorem passF_at {l : List Int} {long node t : Int} {s : Nat} (hp : (planF l).1 = 0) (h : slotE long t = 0) (hs : t / long = s) : (passF l long node t).1 = 0 ↔ whoV l s = node := by
  rw [passF, if_neg (by simp [h]), if_neg (by simp [hp]), hs, Int.toNat_natCast]
  by_cases h1 : whoV l s = node <;> simp [h1]

theorem gu_P : (planF [2, 1]).1 = 0 := by decide
theorem gu_no : ∀ j, j < 1 → ¬ whoV [2, 1] (0 + j) = 1 := by decide

set_option maxRecDepth 100000 in
set_option maxHeartbeats 800000 in
theorem guarded_any (ea : Nat → Addr) (w : World) (hG : GlobC w ea) :
    Calls Tryd.prog 36 #[] w fun e w' => e = .returned (.bool true) ∧ Below w.heap.size w w' := by
  have C1 := Lib.hid (wait_later ea (some ⟨w.heap.size, 0, none⟩) 2 2 [2, 1] 10 1 3 0 1 _ ((hG.below ((Below.refl _ _).alloc (Nat.le_refl _) (.cells (encInts [2, 1]).toArray 3))).sub (by simp)) rfl (RowAt.new_at w (encInts [2, 1]) 3 _ rfl) rfl rfl gu_P (by omega) (by omega) rfl gu_no)
  have C2 := Lib.hid (fun (W : World) (hb : Below w.heap.size w W) => pass_yes ea (some ⟨W.heap.size, 0, none⟩) 2 2 [2, 1] 10 2 9 _ (((hG.below hb).below ((Below.refl _ _).alloc (Nat.le_refl _) (.cells (encInts [2, 1]).toArray 3))).sub (by simp)) rfl (RowAt.new_at W (encInts [2, 1]) 3 _ rfl) (by omega) (by decide))
  have C3 := Lib.hid (fun (W : World) (hb : Below w.heap.size w W) => pass_any ea (some ⟨W.heap.size, 0, none⟩) 2 2 [2, 1] 10 1 9 _ (((hG.below hb).below ((Below.refl _ _).alloc (Nat.le_refl _) (.cells (encInts [2, 1]).toArray 3))).sub (by simp)) rfl (RowAt.new_at W (encInts [2, 1]) 3 _ rfl) (by omega))
  have hf : passF [2, 1] 10 1 9 = (9, -1) := by decide
  have HF := Lib.hid hf
  have HG := Lib.hid hG
  clear hG hf
  go_enter Tryd.func36, Tryd.ntmps36
  go_wp2_with fail
  refine C1.out.mono ?_
  rintro e w1 ⟨he, hb1⟩
  rw [if_pos (by decide)] at he
  subst he
  have hw1 : Below w.heap.size w w1 := ((Below.refl _ _).alloc (Nat.le_refl _) _).trans (hb1.mono (by simp))
  clear hb1
  go_wp2_with fail
  refine (C2.out _ hw1).mono ?_
  rintro e w2 ⟨rfl, hb2⟩
  have hw2 : Below w.heap.size w w2 := (hw1.alloc hw1.size _).trans (hb2.mono (by have := hw1.size; simp; omega))
  clear hb2
  go_wp2_with fail
  refine (C3.out _ hw2).mono ?_
  rintro e w3 ⟨v, rfl, hE, hb3⟩
  rw [HF.out] at hE
  have hw3 : Below w.heap.size w w3 := (hw2.alloc hw2.size _).trans (hb3.mono (by have := hw2.size; simp; omega))
  clear hb3
  go_wp2_with fail
  refine (coded1_any ea v 9 (-1) 9 _ (HG.out.below hw3) hE (by omega)).mono ?_
  rintro e w4 ⟨rfl, hb4⟩
  rw [decide_eq_true (⟨rfl, rfl⟩ : ((9 : Nat) : Int) = 9 ∧ (-1 : Int) = -1)]
  go_wp2
  go_ret
  exact ⟨rfl, hw3.trans (hb4.mono hw3.size)⟩

theorem guardOne_long (ea : Nat → Addr) (a : Option Addr) (n cap : Nat) (long node tick : Int) (w : World) (hG : GlobC w ea) (hc : n ≤ 4611686018427387904) (h : 40 < n) :
    Calls Tryd.prog 8 #[.slice a n cap, .int .i64 long, .int .i64 node, .int .i64 tick] w fun e w' => e = .returned (.bool true) ∧ Below w.heap.size w w' := by
  have HG := Lib.hid hG
  clear hG
  go_enter Tryd.func8, Tryd.ntmps8
  go_wp2_with (go_at_call 36; refine (guarded_any ea _ HG.out).mono ?_; rintro e w1 ⟨rfl, hb⟩)
  go_ret
  exact ⟨rfl, hb⟩

set_option maxRecDepth 100000 in
theorem guardOne_tick (ea : Nat → Addr) (a : Option Addr) (n cap : Nat) (long node tick : Int) (w : World) (hG : GlobC w ea) (h : n ≤ 40) (h0 : slotE long tick ≠ 0) :
    Calls Tryd.prog 8 #[.slice a n cap, .int .i64 long, .int .i64 node, .int .i64 tick] w fun e w' => e = .returned (.bool true) ∧ Below w.heap.size w w' := by
  have HG := Lib.hid hG
  have H2 := Lib.hid (errV_pos ea (k := 2) (by decide))
  have H0 := Lib.hid h0
  clear hG h0
  go_enter Tryd.func8, Tryd.ntmps8
  go_wp2_with (first
    | (go_at_call 36; refine (guarded_any ea _ HG.out).mono ?_; rintro e w1 ⟨rfl, hb⟩)
    | (go_at_call 37; refine (guardSlot_err ea _ _ _ ((HG.out.below hb).sub (by simp)) H0.out).mono ?_; rintro e w2 ⟨rfl, hb2⟩; rw [H2.out]))
  go_ret
  exact ⟨rfl, hb.trans (hb2.mono hb.size)⟩

set_option maxRecDepth 100000 in
theorem guardOne_plan (ea : Nat → Addr) (a : Option Addr) (n cap : Nat) (l : List Int) (long node tick : Int) (w : World) (hG : GlobC w ea) (hn : l.length = n) (hr : RowAt w a (encInts l)) (h : n ≤ 40) (h0 : slotE long tick = 0) (hp : (planF l).1 ≠ 0) :
    Calls Tryd.prog 8 #[.slice a n cap, .int .i64 long, .int .i64 node, .int .i64 tick] w fun e w' => e = .returned (.bool true) ∧ Below w.heap.size w w' := by
  obtain ⟨s, hs, hs1⟩ := slot_nat h0
  have HG := Lib.hid hG
  have C1 := Lib.hid (fun (W : World) => guardSlot_ok long tick W h0)
  rw [hs] at C1
  have HN := Lib.hid hn
  have HP := Lib.hid hp
  clear hG h0 hs hn hp
  cases hz : ((s : Int) == 0)
  all_goals
    go_enter Tryd.func8, Tryd.ntmps8
    go_wp2_with (first
      | (go_at_call 36; refine (guarded_any ea _ HG.out).mono ?_; rintro e w1 ⟨rfl, hb⟩)
      | (go_at_call 37; refine (C1.out _).mono ?_; rintro e w2 ⟨rfl, rfl⟩)
      | (go_at_call 14; refine (planCheck_any ea _ _ _ l _ ((HG.out.below hb).sub (by simp)) HN.out (hr.below hb) (by omega)).mono ?_; rintro e w3 ⟨v, rfl, hE, hb3⟩; obtain ⟨t, x, rfl⟩ := hE.held HP.out))
    go_ret
    exact ⟨rfl, hb.trans (hb3.mono hb.size)⟩

/-- How many of those below j is who. -/
def cnt (who j : Int) : Int := if who < j then 1 else 0
theorem cnt_01 (who j : Int) : 0 ≤ cnt who j ∧ cnt who j ≤ 1 := by unfold cnt; split <;> omega
theorem cnt_hit (who : Int) : cnt who (who + 1) = cnt who who + 1 := by unfold cnt; rw [if_pos (by omega), if_neg (by omega)]; rfl
theorem cnt_miss {who j : Int} (h : who ≠ j) : cnt who (j + 1) = cnt who j := by unfold cnt; split <;> split <;> omega

/-- What guard.Wait answers of a right plan and tick, and what the law asks of it. -/
def waitOk (l : List Int) (long node tick : Int) (v : Value) (x : Value) : Prop :=
  (∃ t y, v = .int .i64 0 ∧ x = .iface t y ∧ (passF l long node tick).1 ≠ 0)
  ∨ (v = .int .i64 tick ∧ x = .nilIface ∧ (passF l long node tick).1 = 0)
  ∨ (∃ z : Int, v = .int .i64 z ∧ x = .nilIface ∧ tick < z ∧ z ≤ 1000000 ∧ (passF l long node z).1 = 0 ∧ (passF l long node tick).1 ≠ 0 ∧ (passF l long node (z - 1)).1 ≠ 0)

theorem waitOk_any (ea : Nat → Addr) (a : Option Addr) (n cap : Nat) (l : List Int) (long node tick : Int) (w : World) (hg : Glob w ea [5, 7, 4, 2]) (hn : l.length = n) (hr : RowAt w a (encInts l)) (h : slotE long tick = 0) (hp : (planF l).1 = 0) :
    Calls Tryd.prog 39 #[.slice a n cap, .int .i64 long, .int .i64 node, .int .i64 tick] w fun e w' => ∃ v x, e = .returned (.tuple #[v, x]) ∧ waitOk l long node tick v x ∧ Below w.heap.size w w' := by
  obtain ⟨s, hs, hs1⟩ := slot_nat h
  obtain ⟨k1, k2, k3, k4⟩ := slotE_ok h
  have hF := planF_ok hp
  by_cases hw : whoV l s = node
  · exact (wait_now ea a n cap l long node tick s w hg hn hr h hs hp hw).mono fun e w' ⟨h1, h2⟩ => ⟨_, _, h1, Or.inr (Or.inl ⟨rfl, rfl, (passF_at hp h hs).2 hw⟩), h2⟩
  · have hno : (passF l long node tick).1 ≠ 0 := fun e => hw ((passF_at hp h hs).1 e)
    rcases first_or_none (fun j => whoV l (s + j) = node) n with ⟨m, hm, h1, h2⟩ | h1
    · have hm0 : 0 < m := by
        rcases Nat.eq_zero_or_pos m with e | e
        · subst e; exact absurd h1 hw
        · exact e
      refine (wait_later ea a n cap l long node tick s m w hg hn hr h hs hp hm0 hm h1 h2).mono fun e w' ⟨h3, h4⟩ => ?_
      by_cases hq : ((s + m : Nat) : Int) * long ≤ 1000000
      · rw [if_pos hq] at h3
        have hpos : (0 : Int) < long := by omega
        have e1 : tick < ((s + m : Nat) : Int) * long := by
          have h5 : tick < (s + 1 : Int) * long := (Int.ediv_lt_iff_lt_mul hpos).1 (by omega)
          have h6 : (s + 1 : Int) * long ≤ ((s + m : Nat) : Int) * long := Int.mul_le_mul_of_nonneg_right (by omega) (by omega)
          omega
        have d1 : ((s + m : Nat) : Int) * long / long = ((s + m : Nat) : Int) := Int.mul_ediv_cancel _ (by omega)
        have d2 : (((s + m : Nat) : Int) * long - 1) / long = ((s + m - 1 : Nat) : Int) := by
          refine Int.le_antisymm ?_ ?_
          · have h5 : (((s + m : Nat) : Int) * long - 1) / long < ((s + m : Nat) : Int) := (Int.ediv_lt_iff_lt_mul hpos).2 (by omega)
            omega
          · refine (Int.le_ediv_iff_mul_le hpos).2 ?_
            have h5 : ((s + m : Nat) : Int) * long = ((s + m - 1 : Nat) : Int) * long + long := by
              rw [show ((s + m : Nat) : Int) = ((s + m - 1 : Nat) : Int) + 1 by omega, Int.add_mul, Int.one_mul]
            omega
        refine ⟨_, _, h3, Or.inr (Or.inr ⟨_, rfl, rfl, e1, hq, (passF_at hp ?_ d1).2 h1, hno, fun e => ?_⟩), h4⟩
        · rw [slotE, if_pos ⟨k1, k2, by omega, hq⟩]
        · have h5 := (passF_at hp (by rw [slotE, if_pos ⟨k1, k2, by omega, by omega⟩]) d2).1 e
          rw [show s + m - 1 = s + (m - 1) by omega] at h5
          exact h2 (m - 1) (by omega) h5
      · rw [if_neg hq, errV_pos ea (by decide)] at h3
        exact ⟨_, _, h3, Or.inl ⟨_, _, rfl, rfl, hno⟩, h4⟩
    · refine (wait_none ea a n cap l long node tick s w hg hn hr h hs hp h1).mono fun e w' ⟨h3, h4⟩ => ?_
      rw [errV_pos ea (by decide)] at h3
      exact ⟨_, _, h3, Or.inl ⟨_, _, rfl, rfl, hno⟩, h4⟩

set_option maxRecDepth 100000 in
set_option maxHeartbeats 1600000 in
theorem guardOne_law (ea : Nat → Addr) (a : Option Addr) (n cap : Nat) (l : List Int) (long node tick : Int) (w : World) (hG : GlobC w ea) (hn : l.length = n) (hr : RowAt w a (encInts l)) (h : n ≤ 40) (h0 : slotE long tick = 0) (hp : (planF l).1 = 0) :
    Calls Tryd.prog 8 #[.slice a n cap, .int .i64 long, .int .i64 node, .int .i64 tick] w fun e w' => e = .returned (.bool true) ∧ Below w.heap.size w w' := by
  obtain ⟨s, hs, hs1⟩ := slot_nat h0
  have hF := planF_ok hp
  obtain ⟨wlo, whi⟩ : 1 ≤ whoV l s ∧ whoV l s ≤ 16 := by
    have hm : whoV l s ∈ l := by
      rw [whoV, List.getD_eq_getElem?_getD, List.getElem?_eq_getElem (Nat.mod_lt _ hF.2.1)]; exact List.getElem_mem _
    have h1 := hF.2.2.2 _ hm
    simpa [nodeB] using h1
  have HA := Lib.hid (fun (x : Int) => passF_at (node := x) hp h0 hs)
  have CY := Lib.hid (fun (W : World) (x t : Int) (hb : Below w.heap.size w W) => pass_yes ea a n cap l long x t W ((hG.below hb).sub (by simp)) hn (hr.below hb) (by omega))
  have CN := Lib.hid (fun (W : World) (x t : Int) (hb : Below w.heap.size w W) => pass_no ea a n cap l long x t W ((hG.below hb).sub (by simp)) hn (hr.below hb) (by omega))
  have CW := Lib.hid (fun (W : World) (hb : Below w.heap.size w W) => waitOk_any ea a n cap l long node tick W ((hG.below hb).sub (by simp)) hn (hr.below hb) h0 hp)
  have C1 := Lib.hid (fun (W : World) => guardSlot_ok long tick W h0)
  have CP := Lib.hid (fun (W : World) (hb : Below w.heap.size w W) => planCheck_any ea a n cap l W ((hG.below hb).sub (by simp)) hn (hr.below hb) (by omega))
  have HP := Lib.hid hp
  rw [hs] at C1
  have HG := Lib.hid hG
  obtain ⟨k1, k2, k3, k4⟩ := slotE_ok h0
  generalize whoV l s = who at *
  clear hG h0 hs hn hp hF
  go_enter Tryd.func8, Tryd.ntmps8
  go_wp2_with (first
    | (go_at_call 36; refine (guarded_any ea _ HG.out).mono ?_; rintro e w1 ⟨rfl, hb⟩)
    | (go_at_call 37; refine (C1.out _).mono ?_; rintro e w2 ⟨rfl, rfl⟩)
    | (go_at_call 14; refine (CP.out _ hb).mono ?_; rintro e w3 ⟨v, rfl, hE, hb3⟩; rw [HP.out] at hE; obtain rfl := hE.nil; have hb4 := hb.trans (hb3.mono hb.size); clear hE hb3 hb))
  go_loopw [12, 13] (fun c i wr => ∃ j : Int, -1 ≤ j ∧ j ≤ 18 ∧ i = .int .i64 j ∧ c = .int .i64 (cnt who j) ∧ Below w.heap.size w wr) (fun _ i _ => (18 - intOf i).toNat)
  case atStart => exact ⟨-1, by omega, by omega, rfl, by rw [show cnt who (-1) = 0 by unfold cnt; rw [if_neg (by omega)]], hb4⟩
  case round =>
    obtain ⟨j, hj1, hj2, rfl, rfl, hbr⟩ := hrel
    obtain ⟨q1, q2⟩ := cnt_01 who j
    by_cases hlt : j ≤ 17
    · by_cases hx : who = j
      · have HQ := Lib.hid ((HA.out j).2 hx)
        have HC := Lib.hid (hx ▸ cnt_hit who : cnt who (j + 1) = cnt who j + 1)
        clear hx
        generalize cnt who j = cc at *
        go_wp2_with (go_at_call 38; refine (CY.out _ _ _ hbr HQ.out).mono ?_; rintro e w5 ⟨rfl, hb5⟩)
        go_roundw
        case rel => exact ⟨j + 1, by omega, by omega, rfl, by rw [HC.out], hbr.trans (hb5.mono hbr.size)⟩
        case measure => simp [intOf]; omega
      · have HQ := Lib.hid (fun e => hx ((HA.out j).1 e))
        have HC := Lib.hid (cnt_miss hx)
        clear hx
        generalize cnt who j = cc at *
        go_wp2_with (go_at_call 38; refine (CN.out _ _ _ hbr HQ.out).mono ?_; rintro e w5 ⟨t, x, rfl, hb5⟩)
        go_roundw
        case rel => exact ⟨j + 1, by omega, by omega, rfl, by rw [HC.out], hbr.trans (hb5.mono hbr.size)⟩
        case measure => simp [intOf]; omega
    · have hc1 : cnt who j = 1 := by unfold cnt; rw [if_pos (by omega)]
      rw [hc1]
      clear hc1 q1 q2
      go_wp2_with fail
      refine (CW.out _ hbr).mono ?_
      rintro e w6 ⟨v, x, rfl, hO, hb6⟩
      have hb7 := hbr.trans (hb6.mono hbr.size)
      clear hb6
      rcases hO with ⟨t, y, rfl, rfl, hno⟩ | ⟨rfl, rfl, hyes⟩ | ⟨z, rfl, rfl, z1, z2, z3, z4, z5⟩
      · have HNO := Lib.hid hno
        clear hno
        go_wp2_with (go_at_call 38; refine (CN.out _ _ _ hb7 HNO.out).mono ?_; rintro e w8 ⟨t, x, rfl, hb8⟩)
        go_ret
        exact ⟨rfl, hb7.trans (hb8.mono hb7.size)⟩
      · have HY := Lib.hid hyes
        have hx1 : decide (tick < tick) = false := by simp
        have hx2 : (tick == tick) = true := by simp
        clear hyes
        go_wp2_with (go_at_call 38; refine (CY.out _ _ _ hb7 HY.out).mono ?_; rintro e w8 ⟨rfl, hb8⟩)
        go_ret
        exact ⟨rfl, hb7.trans (hb8.mono hb7.size)⟩
      · have Z3 := Lib.hid z3
        have Z4 := Lib.hid z4
        have Z5 := Lib.hid z5
        have hx1 : decide (z < tick) = false := by simp; omega
        have hx2 : (z == tick) = false := by simp; omega
        clear z3 z4 z5
        go_wp2_with fail
        refine (CY.out _ _ _ hb7 Z3.out).mono ?_
        rintro e w8 ⟨rfl, hb8⟩
        have hb9 := hb7.trans (hb8.mono hb7.size)
        clear hb8
        go_wp2_with fail
        refine (CN.out _ _ _ hb9 Z4.out).mono ?_
        rintro e w10 ⟨t, x, rfl, hb10⟩
        have hb11 := hb9.trans (hb10.mono hb9.size)
        clear hb10
        go_wp2_with fail
        refine (CN.out _ _ _ hb11 Z5.out).mono ?_
        rintro e w12 ⟨t, x, rfl, hb12⟩
        go_wp2
        go_ret
        exact ⟨rfl, hb11.trans (hb12.mono hb11.size)⟩

/-- The law's walk, whole. -/
theorem walk_GuardOne (ea : Nat → Addr) (a : Option Addr) (n cap : Nat) (l : List Int) (long node tick : Int) (w : World) (hG : GlobC w ea)
    (hn : l.length = n) (hr : RowAt w a (encInts l)) (_hc : n ≤ cap) (hb : n ≤ 4611686018427387904) (_h1 : -9223372036854775808 ≤ long ∧ long ≤ 9223372036854775807) (_h2 : -9223372036854775808 ≤ node ∧ node ≤ 9223372036854775807) (_h3 : -9223372036854775808 ≤ tick ∧ tick ≤ 9223372036854775807) :
    Calls Tryd.prog 8 #[.slice a n cap, .int .i64 long, .int .i64 node, .int .i64 tick] w fun e w' => e = .returned (.bool true) ∧ Below w.heap.size w w' := by
  by_cases h : 40 < n
  · exact guardOne_long ea a n cap long node tick w hG hb h
  · by_cases h0 : slotE long tick = 0
    · by_cases hp : (planF l).1 = 0
      · exact guardOne_law ea a n cap l long node tick w hG hn hr (by omega) h0 hp
      · exact guardOne_plan ea a n cap l long node tick w hG hn hr (by omega) h0 hp
    · exact guardOne_tick ea a n cap long node tick w hG (by omega) h0
end Go.Proofs.YtbhjjbfhncfbdaaDoor
