/- clock.Set, and the reference's SetOf. -/
import Derived.Test.YtlpgafpmhihneaaDoorRefClock
namespace Go.Proofs.YtlpgafpmhihneaaDoor
open Go.RowKit

/-- A clock that is set: the number, the error, its place. -/
def setF (own : Int) (l : List Int) (k : Int) : Int × Nat × Int := if farB own then (0, 2, -1) else if (midF l k).2.1 ≠ 0 then (0, (midF l k).2) else ((midF l k).1 - own, 0, -1)
theorem setF_le (own : Int) (l : List Int) (k : Int) : (setF own l k).2.1 ≤ 11 := by
  have := midF_le l k
  unfold setF; split
  · decide
  · split
    · exact this
    · exact Nat.zero_le _
theorem midF_ok {l : List Int} {k : Int} (h : (midF l k).2.1 = 0) : (midF l k).2.2 = -1 ∧ -1000000 ≤ (midF l k).1 ∧ (midF l k).1 ≤ 1000000 := by
  by_cases hc : (clockF l k).1 = 0
  · obtain ⟨m, rfl⟩ : ∃ m : Nat, k = m := ⟨k.toNat, by have := (clockF_zero hc).2.1; omega⟩
    have hb := midV_bounds hc
    rw [midF, if_pos hc, Int.toNat_natCast]
    exact ⟨rfl, hb.1, hb.2⟩
  · rw [midF, if_neg hc] at h; exact absurd h hc

set_option maxHeartbeats 800000 in
theorem set_any (ea : Nat → Addr) (own : Int) (a : Option Addr) (n cap : Nat) (l : List Int) (k : Int) (w : World) (hg : Glob w ea [2]) (hn : l.length = n) (hr : RowAt w a (encInts l)) (hc : n ≤ 1000) :
    Calls Tryd.prog 14 #[.int .i64 own, .slice a n cap, .int .i64 k] w fun e w' => ∃ v, e = .returned (.tuple #[.int .i64 (setF own l k).1, v]) ∧ ErrIs ea w' v (setF own l k).2.1 (setF own l k).2.2 ∧ Below w.heap.size w w' := by
  have C := Lib.hid (mid_any ea a n cap l k w hg hn hr hc)
  have K := Lib.hid (far_any own w)
  cases hf : farB own
  · rw [hf] at K
    by_cases hx : (midF l k).2.1 = 0
    · have hs : Hid (setF own l k = ((midF l k).1 - own, 0, -1)) := by unfold Hid; rw [setF, if_neg (by simp [hf]), if_neg (by simp [hx])]
      obtain ⟨hpl, b0, b1⟩ := midF_ok hx
      rw [hx, hpl] at C
      simp only [farB, decide_eq_false_iff_not] at hf
      clear hx hpl hr hg hn
      generalize (midF l k).1 = x at *
      go_enter Tryd.func14, Tryd.ntmps14
      go_wp2_with (go_at_call 47; refine K.out.mono ?_; rintro e w1 ⟨rfl, rfl⟩)
      refine C.out.mono ?_
      rintro e w1 ⟨v, rfl, hE, hb⟩
      obtain rfl := hE.nil
      go_wp2
      go_ret2
      rw [hs.out]
      exact ⟨_, rfl, hE, hb⟩
    · have hs : Hid (setF own l k = (0, (midF l k).2)) := by unfold Hid; rw [setF, if_neg (by simp [hf]), if_pos hx]
      have HX := Lib.hid hx
      clear hx hr hg hn hf
      go_enter Tryd.func14, Tryd.ntmps14
      go_wp2_with (go_at_call 47; refine K.out.mono ?_; rintro e w1 ⟨rfl, rfl⟩)
      refine C.out.mono ?_
      rintro e w1 ⟨v, rfl, hE, hb⟩
      obtain ⟨t, x, rfl⟩ := hE.held HX.out
      go_wp2
      go_ret2
      rw [hs.out]
      exact ⟨_, rfl, hE, hb⟩
  · rw [hf] at K
    have hs : Hid (setF own l k = (0, 2, -1)) := by unfold Hid; rw [setF, if_pos hf]
    have g2 := hg.cell 2 (by simp)
    have z2 := hg.lt 2 (by simp)
    simp only [gOf] at g2 z2
    clear hf hr hn hg C
    go_enter Tryd.func14, Tryd.ntmps14
    go_wp2_with (go_at_call 47; refine K.out.mono ?_; rintro e w1 ⟨rfl, rfl⟩)
    go_quiet (fail)
    go_wp2
    go_ret2
    rw [hs.out]
    exact ⟨_, rfl, ErrIs.bare ea _ 2, below_drewN (Below.refl _ _) _⟩

set_option maxHeartbeats 800000 in
theorem refSet_any (own : Int) (a : Option Addr) (n cap : Nat) (l : List Int) (k : Int) (w : World) (hn : l.length = n) (hr : RowAt w a (encInts l)) (hc : n ≤ 1000) :
    Calls Tryd.prog 15 #[.int .i64 own, .slice a n cap, .int .i64 k] w fun e w' => e = .returned (.tuple #[.int .i64 (setF own l k).1, .agg #[.int .i64 (setF own l k).2.1, .int .i64 (setF own l k).2.2]]) ∧ Below w.heap.size w w' := by
  have hb0 : Below w.heap.size w (w.alloc (.cells #[.int .i64 0, .int .i64 0] 32)) := (Below.refl _ _).alloc (Nat.le_refl _) _
  have C := Lib.hid (midOf_any a n cap l k _ hn (hr.below hb0) hc)
  have K := Lib.hid (fun W => isFar_any own W)
  clear hb0
  cases hf : farB own
  · rw [hf] at K
    by_cases hx : (midF l k).2.1 = 0
    · have hs : Hid (setF own l k = ((midF l k).1 - own, 0, -1)) := by unfold Hid; rw [setF, if_neg (by simp [hf]), if_neg (by simp [hx])]
      obtain ⟨hpl, b0, b1⟩ := midF_ok hx
      rw [hx, hpl] at C
      simp only [Int.cast_ofNat_Int] at C
      simp only [farB, decide_eq_false_iff_not] at hf
      clear hx hpl hr hn
      generalize (midF l k).1 = x at *
      go_enter Tryd.func15, Tryd.ntmps15
      go_wp2_with (go_at_call 44; refine (K.out _).mono ?_; rintro e w1 ⟨rfl, rfl⟩)
      refine C.out.mono ?_
      rintro e w1 ⟨rfl, hb⟩
      obtain ⟨c0, c1, f0, f1, z1, hw1⟩ := own2 hb
      obtain ⟨R0, R1⟩ := res2 z1 c0 c1
      go_wp2
      go_region
      go_wp2
      refine bodyPost_ret (v := .tuple #[.int .i64 (x - own), .agg #[.int .i64 0, .int .i64 (-1)]]) (by simp [results, Tryd.results15, go_sem, R0, R1]) rfl ?_
      rw [hs.out]
      exact ⟨rfl, below_drewN (((hw1.setCell (by simp) _).setCell (by simp) _).alloc (by simpa using hw1.size) _) 1⟩
    · have hs : Hid (setF own l k = (0, (midF l k).2)) := by unfold Hid; rw [setF, if_neg (by simp [hf]), if_pos hx]
      have hz : (0 : Int) < ((midF l k).2.1 : Int) := by omega
      clear hx hr hn hf
      generalize hq1 : ((midF l k).2.1 : Int) = c at *
      generalize hq2 : (midF l k).2.2 = pl at *
      generalize hq3 : (midF l k).1 = x at *
      have HQ1 := Lib.hid hq1
      have HQ2 := Lib.hid hq2
      clear hq1 hq2 hq3
      go_enter Tryd.func15, Tryd.ntmps15
      go_wp2_with (go_at_call 44; refine (K.out _).mono ?_; rintro e w1 ⟨rfl, rfl⟩)
      refine C.out.mono ?_
      rintro e w1 ⟨rfl, hb⟩
      obtain ⟨c0, c1, f0, f1, z1, hw1⟩ := own2 hb
      obtain ⟨R0, R1⟩ := res2 z1 c0 c1
      go_wp2
      go_region
      go_wp2
      refine bodyPost_ret (v := .tuple #[.int .i64 0, .agg #[.int .i64 c, .int .i64 pl]]) (by simp [results, Tryd.results15, go_sem, R0, R1]) rfl ?_
      rw [hs.out, HQ1.out, HQ2.out]
      exact ⟨rfl, below_drewN (((hw1.setCell (by simp) _).setCell (by simp) _).alloc (by simpa using hw1.size) _) 1⟩
  · rw [hf] at K
    have hs : Hid (setF own l k = (0, 2, -1)) := by unfold Hid; rw [setF, if_pos hf]
    clear hf hr hn C
    go_enter Tryd.func15, Tryd.ntmps15
    go_wp2_with (go_at_call 44; refine (K.out _).mono ?_; rintro e w1 ⟨rfl, rfl⟩)
    refine (bare_any _ _).mono ?_
    rintro e w1 ⟨rfl, hb⟩
    obtain ⟨c0, c1, f0, f1, z1, hw1⟩ := own2 hb
    go_wp2
    refine bodyPost_ret (v := .tuple #[.int .i64 0, .agg #[.int .i64 2, .int .i64 (-1)]]) (by simp [results, Tryd.results15, go_sem, c0, c1]) rfl ?_
    rw [hs.out]
    exact ⟨rfl, (hw1.setCell (by simp) _).setCell (by simp) _⟩
end Go.Proofs.YtlpgafpmhihneaaDoor
