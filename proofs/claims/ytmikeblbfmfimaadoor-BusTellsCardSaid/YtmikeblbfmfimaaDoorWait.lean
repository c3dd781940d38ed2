/- guard.Wait. -/
import Derived.Test.YtmikeblbfmfimaaDoorGuard
namespace Go.Proofs.YtmikeblbfmfimaaDoor
open Go.RowKit

theorem wait_tick (ea : Nat → Addr) (a : Option Addr) (n cap : Nat) (long node tick : Int) (w : World) (hg : Glob w ea [2]) (h : slotE long tick ≠ 0) :
    Calls Tryd.prog 38 #[.slice a n cap, .int .i64 long, .int .i64 node, .int .i64 tick] w fun e w' => e = .returned (.tuple #[.int .i64 0, errV ea 2]) ∧ Below w.heap.size w w' := by
  have H2 := Lib.hid (errV_pos ea (k := 2) (by decide))
  have H := Lib.hid h
  clear h
  go_enter Tryd.func38, Tryd.ntmps38
  go_wp2_with (go_at_call 35; refine (guardSlot_err ea _ _ _ hg H.out).mono ?_; rintro e w1 ⟨rfl, hb⟩; rw [H2.out])
  go_ret2
  exact ⟨by rw [H2.out]; rfl, hb⟩

theorem wait_plan (ea : Nat → Addr) (a : Option Addr) (n cap : Nat) (l : List Int) (long node tick : Int) (w : World) (hg : Glob w ea [5, 7, 4, 2]) (hn : l.length = n) (hr : RowAt w a (encInts l)) (hc : n ≤ 4611686018427387904) (h : slotE long tick = 0) (hp : (planF l).1 ≠ 0) :
    Calls Tryd.prog 38 #[.slice a n cap, .int .i64 long, .int .i64 node, .int .i64 tick] w fun e w' => ∃ v, e = .returned (.tuple #[.int .i64 0, v]) ∧ ErrIs ea w' v (planF l).1 (planF l).2 ∧ Below w.heap.size w w' := by
  obtain ⟨s, hs, hs1⟩ := slot_nat h
  have C1 := Lib.hid (guardSlot_ok long tick w h)
  rw [hs] at C1
  have HR := Lib.hid (show rightF l s = planF l by rw [rightF_of l hs1, if_neg hp])
  have HZ : Hid ((rightF l s).1 ≠ 0) := by unfold Hid; rw [HR.out]; exact hp
  have HN := Lib.hid hn
  clear h hs hp hn
  go_enter Tryd.func38, Tryd.ntmps38
  go_wp2_with (first
    | (go_at_call 35; refine (C1.out).mono ?_; rintro e w1 ⟨rfl, rfl⟩)
    | (go_at_call 31; refine (next_err ea _ _ _ l node s _ hg HN.out hr hc HZ.out).mono ?_; rintro e w2 ⟨v, rfl, hE, hb⟩; obtain ⟨t, x, rfl⟩ := hE.held HZ.out))
  go_ret2
  exact ⟨_, rfl, by rw [← HR.out]; exact hE, hb⟩

theorem wait_none (ea : Nat → Addr) (a : Option Addr) (n cap : Nat) (l : List Int) (long node tick : Int) (s : Nat) (w : World) (hg : Glob w ea [5, 7, 4, 2]) (hn : l.length = n) (hr : RowAt w a (encInts l)) (h : slotE long tick = 0) (hs : tick / long = s) (hp : (planF l).1 = 0)
    (hno : ∀ j, j < n → ¬ whoV l (s + j) = node) :
    Calls Tryd.prog 38 #[.slice a n cap, .int .i64 long, .int .i64 node, .int .i64 tick] w fun e w' => e = .returned (.tuple #[.int .i64 0, errV ea 5]) ∧ Below w.heap.size w w' := by
  obtain ⟨s', hs', hs1⟩ := slot_nat h
  obtain rfl : s' = s := by omega
  have C1 := Lib.hid (guardSlot_ok long tick w h)
  rw [hs] at C1
  have HZ := Lib.hid (show (rightF l s').1 = 0 by rw [rightF_of l hs1, if_pos hp])
  have HN := Lib.hid hn
  have HNO := Lib.hid hno
  have H5 := Lib.hid (errV_pos ea (k := 5) (by decide))
  clear h hs hp hn hs' hno
  go_enter Tryd.func38, Tryd.ntmps38
  go_wp2_with (first
    | (go_at_call 35; refine (C1.out).mono ?_; rintro e w1 ⟨rfl, rfl⟩)
    | (go_at_call 31; refine (next_none ea _ _ _ l node s' _ hg HN.out hr HZ.out HNO.out).mono ?_; rintro e w2 ⟨rfl, hb⟩; rw [H5.out]))
  go_ret2
  exact ⟨by rw [H5.out]; rfl, hb⟩

/-- The node has this very slot. -/
theorem wait_now (ea : Nat → Addr) (a : Option Addr) (n cap : Nat) (l : List Int) (long node tick : Int) (s : Nat) (w : World) (hg : Glob w ea [5, 7, 4, 2]) (hn : l.length = n) (hr : RowAt w a (encInts l)) (h : slotE long tick = 0) (hs : tick / long = s) (hp : (planF l).1 = 0)
    (hw : whoV l s = node) :
    Calls Tryd.prog 38 #[.slice a n cap, .int .i64 long, .int .i64 node, .int .i64 tick] w fun e w' => e = .returned (.tuple #[.int .i64 tick, .nilIface]) ∧ Below w.heap.size w w' := by
  obtain ⟨s', hs', hs1⟩ := slot_nat h
  obtain rfl : s' = s := by omega
  have C1 := Lib.hid (guardSlot_ok long tick w h)
  rw [hs] at C1
  have hF := planF_ok hp
  have C2 := Lib.hid (next_ok ea a n cap l node s' 0 w hg hn hr (by rw [rightF_of l hs1, if_pos hp]) (by omega) hw (fun j hj => by omega))
  rw [Nat.add_zero] at C2
  have hx : ((s' : Int) == (s' : Int)) = true := by simp
  clear h hs hp hn hs' hF hw
  go_enter Tryd.func38, Tryd.ntmps38
  go_wp2_with (first
    | (go_at_call 35; refine (C1.out).mono ?_; rintro e w1 ⟨rfl, rfl⟩)
    | (go_at_call 31; refine (C2.out).mono ?_; rintro e w2 ⟨rfl, hb⟩))
  go_ret2
  exact ⟨rfl, hb⟩

theorem prod_le {x long : Int} (h0 : 0 ≤ x) (hx : x ≤ 2000000) (hl : 1 ≤ long) (hl2 : long ≤ 1000000) : 0 ≤ x * long ∧ x * long ≤ 2000000000000 := by
  refine ⟨Int.mul_nonneg h0 (by omega), ?_⟩
  have h1 : x * long ≤ 2000000 * long := Int.mul_le_mul_of_nonneg_right hx (by omega)
  omega

set_option maxHeartbeats 400000 in
/-- The node has a later slot: its first tick, if there is one. -/
theorem wait_later (ea : Nat → Addr) (a : Option Addr) (n cap : Nat) (l : List Int) (long node tick : Int) (s m : Nat) (w : World) (hg : Glob w ea [5, 7, 4, 2]) (hn : l.length = n) (hr : RowAt w a (encInts l)) (h : slotE long tick = 0) (hs : tick / long = s) (hp : (planF l).1 = 0)
    (hm0 : 0 < m) (hm : m < n) (hw : whoV l (s + m) = node) (hno : ∀ j, j < m → ¬ whoV l (s + j) = node) :
    Calls Tryd.prog 38 #[.slice a n cap, .int .i64 long, .int .i64 node, .int .i64 tick] w fun e w' => (e = if ((s + m : Nat) : Int) * long ≤ 1000000 then .returned (.tuple #[.int .i64 (((s + m : Nat) : Int) * long), .nilIface]) else .returned (.tuple #[.int .i64 0, errV ea 2])) ∧ Below w.heap.size w w' := by
  obtain ⟨s', hs', hs1⟩ := slot_nat h
  obtain rfl : s' = s := by omega
  have C1 := Lib.hid (guardSlot_ok long tick w h)
  rw [hs] at C1
  have hF := planF_ok hp
  have C2 := Lib.hid (next_ok ea a n cap l node s' m w hg hn hr (by rw [rightF_of l hs1, if_pos hp]) hm hw hno)
  obtain ⟨k1, k2, _, _⟩ := slotE_ok h
  have hx : (((s' + m : Nat) : Int) == (s' : Int)) = false := by simp; omega
  have hle : ((s' + m : Nat) : Int) ≤ 2000000 := by omega
  have hge : (0 : Int) ≤ ((s' + m : Nat) : Int) := by omega
  obtain ⟨q1, q2⟩ := prod_le hge hle k1 k2
  generalize ((s' + m : Nat) : Int) = x at *
  clear h hs hp hn hs' hF hw hno
  by_cases hq : x * long ≤ 1000000
  · rw [if_pos hq]
    go_enter Tryd.func38, Tryd.ntmps38
    go_wp2_with (first
      | (go_at_call 35; refine (C1.out).mono ?_; rintro e w1 ⟨rfl, rfl⟩)
      | (go_at_call 31; refine (C2.out).mono ?_; rintro e w2 ⟨rfl, hb⟩))
    go_ret2
    exact ⟨rfl, hb⟩
  · rw [if_neg hq]
    have hq2 : 1000000 < x * long := by omega
    clear hq
    go_enter Tryd.func38, Tryd.ntmps38
    go_wp2_with (first
      | (go_at_call 35; refine (C1.out).mono ?_; rintro e w1 ⟨rfl, rfl⟩)
      | (go_at_call 31; refine (C2.out).mono ?_; rintro e w2 ⟨rfl, hb⟩; have g2 := (hg.below hb).cell 2 (by simp); simp only [gOf] at g2))
    go_quiet (fail)
    go_wp2
    go_ret2
    exact ⟨rfl, below_drewN hb _⟩
end Go.Proofs.YtmikeblbfmfimaaDoor
