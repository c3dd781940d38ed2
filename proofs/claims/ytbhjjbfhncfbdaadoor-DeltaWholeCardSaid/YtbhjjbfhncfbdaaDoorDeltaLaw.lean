/- DeltaWhole: the law's walk. -/
import Derived.Test.YtbhjjbfhncfbdaaDoorDeltaFact
import Derived.Test.YtbhjjbfhncfbdaaDoorDeltaPlain
namespace Go.Proofs.YtbhjjbfhncfbdaaDoor
open Go.RowKit

theorem delta_guard (ea : Nat → Addr) (a a2 : Option Addr) (n cap n2 cap2 : Nat) (most : Int) (w : World) (hg : Glob w ea [7, 10, 4, 2, 3]) (hc : n ≤ 4611686018427387904) (hc2 : n2 ≤ 4611686018427387904) (h : 60 < n ∨ 60 < n2 ∨ most < 1) :
    Calls Tryd.prog 5 #[.slice a n cap, .slice a2 n2 cap2, .int .i64 most] w fun e w' => e = .returned (.bool true) ∧ Below w.heap.size w w' := by
  by_cases h1 : 60 < n
  · clear h
    go_enter Tryd.func5, Tryd.ntmps5
    go_wp2_with (go_at_call 20; refine (missed_any ea _ hg).mono ?_; rintro e w1 ⟨rfl, hb⟩)
    go_ret
    exact ⟨rfl, hb⟩
  · by_cases h2 : 60 < n2
    · clear h
      go_enter Tryd.func5, Tryd.ntmps5
      go_wp2_with (go_at_call 20; refine (missed_any ea _ hg).mono ?_; rintro e w1 ⟨rfl, hb⟩)
      go_ret
      exact ⟨rfl, hb⟩
    · have h3 : most < 1 := by omega
      clear h
      go_enter Tryd.func5, Tryd.ntmps5
      go_wp2_with (go_at_call 20; refine (missed_any ea _ hg).mono ?_; rintro e w1 ⟨rfl, hb⟩)
      go_ret
      exact ⟨rfl, hb⟩

theorem delta_bad (ea : Nat → Addr) (a a2 : Option Addr) (n cap n2 cap2 : Nat) (es fs : List Ent) (most : Int) (w : World) (hg : Glob w ea [7, 10, 4, 2, 3]) (hn : es.length = n) (hr : RowAt w a (encEnts es)) (hn2 : fs.length = n2) (hr2 : RowAt w a2 (encEnts fs))
    (h : n ≤ 60) (h2 : n2 ≤ 60) (h3 : 1 ≤ most) (h0 : (chk es).1 ≠ 0 ∨ (chk fs).1 ≠ 0) :
    Calls Tryd.prog 5 #[.slice a n cap, .slice a2 n2 cap2, .int .i64 most] w fun e w' => e = .returned (.bool true) ∧ Below w.heap.size w w' := by
  by_cases k0 : (chk es).1 = 0
  · have H1 : (chk fs).1 ≠ 0 := h0.resolve_left (by simp [k0])
    have H0 := Lib.hid k0
    have H1 := Lib.hid H1
    clear h0 k0
    go_enter Tryd.func5, Tryd.ntmps5
    go_wp2_with fail
    refine (missed_any ea _ hg).mono ?_
    rintro e w1 ⟨rfl, hb⟩
    go_wp2_with fail
    refine (check_any ea _ _ _ es _ (hg.below hb) hn (hr.below hb) (by omega)).mono ?_
    rintro e w2 ⟨v, rfl, hE, hb2⟩
    rw [H0.out] at hE
    obtain rfl := hE.nil
    have hb3 := hb.trans (hb2.mono hb.size)
    clear hb2 hE
    go_wp2_with fail
    refine (check_any ea _ _ _ fs _ (hg.below hb3) hn2 (hr2.below hb3) (by omega)).mono ?_
    rintro e w4 ⟨v, rfl, hE, hb4⟩
    obtain ⟨t, x, rfl⟩ := hE.held H1.out
    go_wp2
    go_ret
    exact ⟨rfl, hb3.trans (hb4.mono hb3.size)⟩
  · have H0 := Lib.hid k0
    clear h0 k0
    go_enter Tryd.func5, Tryd.ntmps5
    go_wp2_with fail
    refine (missed_any ea _ hg).mono ?_
    rintro e w1 ⟨rfl, hb⟩
    go_wp2_with fail
    refine (check_any ea _ _ _ es _ (hg.below hb) hn (hr.below hb) (by omega)).mono ?_
    rintro e w2 ⟨v, rfl, hE, hb2⟩
    obtain ⟨t, x, rfl⟩ := hE.held H0.out
    go_wp2
    go_ret
    exact ⟨rfl, hb.trans (hb2.mono hb.size)⟩

def nOf : Value → Nat
  | .slice _ n _ => n
  | _ => 0

set_option maxHeartbeats 1600000 in
set_option maxRecDepth 100000 in
theorem delta_law (ea : Nat → Addr) (a a2 : Option Addr) (n cap n2 cap2 : Nat) (es fs : List Ent) (most : Int) (w : World) (hg : Glob w ea [7, 10, 4, 2, 3]) (hn : es.length = n) (hr : RowAt w a (encEnts es)) (hc : n ≤ cap) (hn2 : fs.length = n2) (hr2 : RowAt w a2 (encEnts fs)) (hc2 : n2 ≤ cap2)
    (h : n ≤ 60) (h2 : n2 ≤ 60) (h3 : 1 ≤ most) (h0 : (chk es).1 = 0) (h1 : (chk fs).1 = 0) :
    Calls Tryd.prog 5 #[.slice a n cap, .slice a2 n2 cap2, .int .i64 most] w fun e w' => e = .returned (.bool true) ∧ Below w.heap.size w w' := by
  have H0 := Lib.hid h0
  have H1 := Lib.hid h1
  have HN := Lib.hid hn
  have HN2 := Lib.hid hn2
  obtain ⟨q1, q2, q3⟩ := agreeN_le es fs
  have hkn : agreeN es fs ≤ n := by omega
  have hkn2 : agreeN es fs ≤ n2 := by omega
  have HQ := Lib.hid q3
  have hrk : RowAt w a2 (encEnts (es.take (agreeN es fs))) := by rw [q3, encEnts_take]; exact hr2.take _
  clear h0 h1 q1 q2 q3 hn hn2
  go_enter Tryd.func5, Tryd.ntmps5
  go_wp2_with fail
  refine (missed_any ea _ hg).mono ?_
  rintro e w1 ⟨rfl, hb⟩
  go_wp2_with fail
  refine (check_any ea _ _ _ es _ (hg.below hb) HN.out (hr.below hb) (by omega)).mono ?_
  rintro e w2 ⟨v, rfl, hE, hb2⟩
  rw [H0.out] at hE
  obtain rfl := hE.nil
  have hb3 := hb.trans (hb2.mono hb.size)
  clear hb2 hE hb
  go_wp2_with fail
  refine (check_any ea _ _ _ fs _ (hg.below hb3) HN2.out (hr2.below hb3) (by omega)).mono ?_
  rintro e w4 ⟨v, rfl, hE, hb4⟩
  rw [H1.out] at hE
  obtain rfl := hE.nil
  have hb5 := hb3.trans (hb4.mono hb3.size)
  clear hb4 hE hb3
  go_wp2_with fail
  refine (agree_any _ _ _ _ _ _ es fs _ HN.out (hr.below hb5) HN2.out (hr2.below hb5) (by omega)).mono ?_
  rintro e w6 ⟨rfl, hb6⟩
  have hb7 := hb5.trans (hb6.mono hb5.size)
  clear hb6 hb5
  clear HQ
  generalize agreeN es fs = q at *
  have hd1 : decide (n < q) = false := by simp; omega
  have hd2 : decide (n2 < q) = false := by simp; omega
  go_wp2_with fail
  go_loopw [9, 10] (fun hv i wr => ∃ (k j : Nat) (ah : Option Addr) (ch : Nat), i = .int .i64 k ∧ hv = .slice ah j ch ∧ k ≤ j ∧ j ≤ n ∧ j ≤ ch ∧ RowAt wr ah (encEnts (es.take j)) ∧ Below w.heap.size w wr) (fun hv _ _ => n - nOf hv)
  case atStart => exact ⟨0, q, a2, cap2, rfl, rfl, Nat.zero_le _, hkn, by omega, hrk.below hb7, hb7⟩
  case round =>
    obtain ⟨k, j, ah, ch, rfl, rfl, hkj, hjn, hjc, hrh, hbr⟩ := hrel
    by_cases hlt : j < n
    · have C1 := Lib.hid (since_ok ea a n cap es j most wr (hg.below hbr) HN.out (hr.below hbr) hc (by omega) H0.out hjn h3)
      have hsl := Lib.hid (sinceL_len es j most)
      have hsj := Lib.hid (since_join es j most)
      have C2 := Lib.hid (chk_take es j H0.out)
      have C3 := Lib.hid (chk_take es (j + (sinceL es j most).length) H0.out)
      have CL := Lib.hid (List.length_take (l := es) (i := j))
      go_wp2_with fail
      refine C1.out.mono ?_
      rintro e w8 ⟨a', m', cap', rfl, hra, hm', hca, hb8⟩
      have hm1 : 1 ≤ m' := by have := hsl.out; have := HN.out; omega
      have hm2 : (m' : Int) ≤ most := by have := hsl.out; have := HN.out; omega
      have hm3 : j + m' ≤ n := by have := hsl.out; have := HN.out; omega
      have HM := Lib.hid hm'
      clear hm'
      have hmz : ((m' : Int) == 0) = false := by simp; omega
      have hb9 := hbr.trans (hb8.mono hbr.size)
      have hrh9 := hrh.below hb8
      clear hb8
      go_wp2_with fail
      refine (join_ok ea ah a' j ch m' cap' (es.take j) (sinceL es j most) _ (hg.below hb9) (by have := CL.out; have := HN.out; omega) hrh9 HM.out.symm hra (by omega) (by omega) C2.out (by rw [hsj.out]; exact C3.out)).mono ?_
      rintro e w10 ⟨a3, c3, rfl, hr3, hc3, hb10⟩
      rw [hsj.out, ← HM.out] at hr3
      have hb11 := hb9.trans (hb10.mono hb9.size)
      clear hb10 hb9
      go_wp2
      go_roundw
      case rel => exact ⟨k + 1, j + m', a3, c3, by go_num, rfl, by omega, by omega, hc3, hr3, hb11⟩
      case measure => simp [nOf]; omega
    · obtain rfl : j = n := by omega
      have ht : es.take j = es := List.take_of_length_le (by have := HN.out; omega)
      rw [ht] at hrh
      have C1 := Lib.hid (since_ok ea a j cap es j most wr (hg.below hbr) HN.out (hr.below hbr) hc (by omega) H0.out hjn h3)
      have hsl := Lib.hid (sinceL_len es j most)
      go_wp2_with fail
      refine C1.out.mono ?_
      rintro e w8 ⟨a', m', cap', rfl, hra, hm', hca, hb8⟩
      obtain rfl : m' = 0 := by have := hsl.out; have := HN.out; omega
      have hb9 := hbr.trans (hb8.mono hbr.size)
      have hrh9 := hrh.below hb8
      clear hb8 hm'
      go_wp2_with fail
      refine (sameEnts_any _ _ _ _ _ _ es es _ HN.out hrh9 HN.out (hr.below hb9) (by omega)).mono ?_
      rintro e w10 ⟨rfl, hb10⟩
      rw [decide_eq_true rfl]
      go_wp2
      go_ret
      exact ⟨rfl, hb9.trans (hb10.mono hb9.size)⟩

/-- The law's walk, whole. -/
theorem walk_DeltaWhole (ea : Nat → Addr) (a : Option Addr) (n cap : Nat) (es : List Ent) (a2 : Option Addr) (n2 cap2 : Nat) (fs : List Ent) (most : Int) (w : World) (hg : Glob w ea [2, 3, 4, 7, 10])
    (hn : es.length = n) (hr : RowAt w a (encEnts es)) (hc : n ≤ cap) (hb : n ≤ 4611686018427387904) (hn2 : fs.length = n2) (hr2 : RowAt w a2 (encEnts fs)) (hc2 : n2 ≤ cap2) (hb2 : n2 ≤ 4611686018427387904) (_hx : -9223372036854775808 ≤ most ∧ most ≤ 9223372036854775807) :
    Calls Tryd.prog 5 #[.slice a n cap, .slice a2 n2 cap2, .int .i64 most] w fun e w' => e = .returned (.bool true) ∧ Below w.heap.size w w' := by
  have hg' : Glob w ea [7, 10, 4, 2, 3] := hg.sub (by simp)
  by_cases h : 60 < n ∨ 60 < n2 ∨ most < 1
  · exact delta_guard ea a a2 n cap n2 cap2 most w hg' hb hb2 h
  · by_cases h0 : (chk es).1 ≠ 0 ∨ (chk fs).1 ≠ 0
    · exact delta_bad ea a a2 n cap n2 cap2 es fs most w hg' hn hr hn2 hr2 (by omega) (by omega) (by omega) h0
    · exact delta_law ea a a2 n cap n2 cap2 es fs most w hg' hn hr hc hn2 hr2 hc2 (by omega) (by omega) (by omega) (by omega) (by omega)
end Go.Proofs.YtbhjjbfhncfbdaaDoor
