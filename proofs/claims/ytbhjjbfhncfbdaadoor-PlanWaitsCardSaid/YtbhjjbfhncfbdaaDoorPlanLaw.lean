/- PlanWaits: the law's walk. -/
import Derived.Test.YtbhjjbfhncfbdaaDoorPlanFact
import Derived.Test.YtbhjjbfhncfbdaaDoorPlanPlain
namespace Go.Proofs.YtbhjjbfhncfbdaaDoor
open Go.RowKit

theorem who_at (ea : Nat → Addr) (a : Option Addr) (n cap : Nat) (l : List Int) (x : Int) (s : Nat) (hx : x = s) (w : World) (hg : Glob w ea [5, 7, 4, 2]) (hn : l.length = n) (hr : RowAt w a (encInts l)) (h : (rightF l s).1 = 0) :
    Calls Tryd.prog 18 #[.slice a n cap, .int .i64 x] w fun e w' => e = .returned (.tuple #[.int .i64 (whoV l s), .nilIface]) ∧ Below w.heap.size w w' := by
  subst hx; exact who_ok ea a n cap l s w hg hn hr h

theorem rightF_mk {l : List Int} (h : (planF l).1 = 0) {s : Nat} (hs : s ≤ 1000000) : (rightF l (s : Int)).1 = 0 := by
  rw [rightF, if_pos h, if_pos (by omega)]

theorem planWaits_long (ea : Nat → Addr) (a : Option Addr) (n cap : Nat) (node slot : Int) (w : World) (hg : Glob w ea [5, 7, 4, 2]) (hc : n ≤ 4611686018427387904) (h : 40 < n) :
    Calls Tryd.prog 4 #[.slice a n cap, .int .i64 node, .int .i64 slot] w fun e w' => e = .returned (.bool true) ∧ Below w.heap.size w w' := by
  go_enter Tryd.func4, Tryd.ntmps4
  go_wp2_with (go_at_call 13; refine (planned_any ea _ hg).mono ?_; rintro e w1 ⟨rfl, hb⟩)
  go_ret
  exact ⟨rfl, hb⟩

theorem planWaits_bad (ea : Nat → Addr) (a : Option Addr) (n cap : Nat) (l : List Int) (node slot : Int) (w : World) (hg : Glob w ea [5, 7, 4, 2]) (hn : l.length = n) (hr : RowAt w a (encInts l)) (h : n ≤ 40) (h0 : (planF l).1 ≠ 0) :
    Calls Tryd.prog 4 #[.slice a n cap, .int .i64 node, .int .i64 slot] w fun e w' => e = .returned (.bool true) ∧ Below w.heap.size w w' := by
  have hgp : Glob w ea [5, 7, 4] := hg.sub (by simp)
  have H0 := Lib.hid h0
  have HN := Lib.hid hn
  clear h0 hn
  go_enter Tryd.func4, Tryd.ntmps4
  go_wp2_with (first
    | (go_at_call 13; refine (planned_any ea _ hg).mono ?_; rintro e w1 ⟨rfl, hb⟩)
    | (go_at_call 14; refine (planCheck_any ea _ _ _ l _ (hgp.below hb) HN.out (hr.below hb) (by omega)).mono ?_; rintro e w2 ⟨v, rfl, hE, hb2⟩; obtain ⟨t, x, rfl⟩ := hE.held H0.out))
  go_ret
  exact ⟨rfl, hb.trans (hb2.mono hb.size)⟩

theorem planWaits_slot (ea : Nat → Addr) (a : Option Addr) (n cap : Nat) (l : List Int) (node slot : Int) (w : World) (hg : Glob w ea [5, 7, 4, 2]) (hn : l.length = n) (hr : RowAt w a (encInts l)) (h : n ≤ 40) (h0 : (planF l).1 = 0) (hs : slot < 0 ∨ 999900 < slot) :
    Calls Tryd.prog 4 #[.slice a n cap, .int .i64 node, .int .i64 slot] w fun e w' => e = .returned (.bool true) ∧ Below w.heap.size w w' := by
  have hgp : Glob w ea [5, 7, 4] := hg.sub (by simp)
  have H0 := Lib.hid h0
  have HN := Lib.hid hn
  clear h0 hn
  by_cases hs0 : slot < 0
  all_goals
    try (have hs1 : 999900 < slot := by omega)
    clear hs
    go_enter Tryd.func4, Tryd.ntmps4
    go_wp2_with (first
      | (go_at_call 13; refine (planned_any ea _ hg).mono ?_; rintro e w1 ⟨rfl, hb⟩)
      | (go_at_call 14; refine (planCheck_any ea _ _ _ l _ (hgp.below hb) HN.out (hr.below hb) (by omega)).mono ?_; rintro e w2 ⟨v, rfl, hE, hb2⟩; rw [H0.out] at hE; obtain rfl := hE.nil))
    go_ret
    exact ⟨rfl, hb.trans (hb2.mono hb.size)⟩

set_option maxHeartbeats 1600000 in
set_option maxRecDepth 100000 in
theorem planWaits_found (ea : Nat → Addr) (a : Option Addr) (n cap : Nat) (l : List Int) (node : Int) (s m : Nat) (w : World) (hg : Glob w ea [5, 7, 4, 2]) (hn : l.length = n) (hr : RowAt w a (encInts l)) (h : n ≤ 40) (h0 : (planF l).1 = 0) (hs : s ≤ 999900)
    (hm : m < n) (hw : whoV l (s + m) = node) (hno : ∀ j, j < m → ¬ whoV l (s + j) = node) :
    Calls Tryd.prog 4 #[.slice a n cap, .int .i64 node, .int .i64 s] w fun e w' => e = .returned (.bool true) ∧ Below w.heap.size w w' := by
  have hgp : Glob w ea [5, 7, 4] := hg.sub (by simp)
  have hF := planF_ok h0
  have hn0 : 0 < n := by omega
  have HM := Lib.hid (hasB_crewOf hF.2.2.2 node)
  have hmem : node ∈ l := hw ▸ whoV_mem l _ hF.2.1
  have HME := Lib.hid hmem
  have HR := Lib.hid (had_round l node s hF.2.1)
  have HS := Lib.hid (had_succ l node s)
  have HL := Lib.hid (had_le l node s)
  have HRT := Lib.hid (fun (j : Nat) (hj : j ≤ 40) => rightF_mk h0 (s := s + j) (by omega))
  have HW := Lib.hid hw
  have HNO := Lib.hid hno
  have H0 := Lib.hid h0
  have HN := Lib.hid hn
  clear h0 hn hF hmem hw hno
  go_enter Tryd.func4, Tryd.ntmps4
  go_wp2_with (first
    | (go_at_call 13; refine (planned_any ea _ hg).mono ?_; rintro e w1 ⟨rfl, hb⟩)
    | (go_at_call 14; refine (planCheck_any ea _ _ _ l _ (hgp.below hb) HN.out (hr.below hb) (by omega)).mono ?_; rintro e w2 ⟨v, rfl, hE, hb2⟩; rw [H0.out] at hE; obtain rfl := hE.nil; have hb3 := hb.trans (hb2.mono hb.size); clear hE hb2 hb)
    | (go_at_call 15; refine (planCrew_ok ea _ _ _ l _ (hgp.below hb3) HN.out (hr.below hb3) H0.out).mono ?_; rintro e w4 ⟨rfl, hb4⟩; have hb5 := hb3.trans (hb4.mono hb3.size); clear hb3 hb4)
    | (go_at_call 16; refine (next_ok ea _ _ _ l node s m _ (hg.below hb5) HN.out (hr.below hb5) (HRT.out 0 (by omega)) hm HW.out HNO.out).mono ?_; rintro e w6 ⟨rfl, hb6⟩; have hb7 := hb5.trans (hb6.mono hb5.size); clear hb5 hb6))
  go_quiet ((go_at_call 17; exact Calls.quiet_of_same ((has_any ea _ _ _ ((hg.below (below_drewN hb7 _)).sub (by simp))).mono fun _ _ ⟨h1, h2⟩ => ⟨h1, h2.symm⟩)))
  rw [HM.out, decide_eq_true HME.out]
  go_wp2
  have hbq := below_drewN hb7 nq
  generalize w6.drewN nq = w8 at *
  clear hb7
  go_loopw [11, 12] (fun c i wr => ∃ k : Nat, k ≤ n ∧ i = .int .i64 k ∧ c = .int .i64 (had l node s k) ∧ Below w.heap.size w wr) (fun _ i _ => n - (intOf i).toNat)
  case atStart => exact ⟨0, Nat.zero_le _, rfl, rfl, hbq⟩
  case round =>
    obtain ⟨k, hk, rfl, rfl, hbr⟩ := hrel
    have hle := HL.out k
    by_cases hlt : k < n
    · have HX := Lib.hid (HS.out k)
      have HR1 := Lib.hid (HRT.out k (by omega))
      have hn1 := fun (e : whoV l (s + k) = node) => HNO.out k
      cases hx : (whoV l (s + k) == node)
      · have HXX := Lib.hid hx
        clear hx hn1
        go_wp2_with (go_at_call 18; refine (who_at ea _ _ _ l _ (s + k) (by omega) _ (hg.below hbr) HN.out (hr.below hbr) HR1.out).mono ?_; rintro e w9 ⟨rfl, hb9⟩; have hx := HXX.out; generalize whoV l (s + k) = x at *)
        all_goals
          go_roundw
          case rel => first | exact ⟨k + 1, by omega, by go_num, by rw [HX.out, HXX.out]; first | rfl | go_num, hbr.trans (hb9.mono hbr.size)⟩ | ((repeat apply Exists.intro); exact ⟨⟨k + 1, by omega, by go_num, by rw [HX.out, HXX.out]; first | rfl | go_num, hbr.trans (hb9.mono hbr.size)⟩, rfl⟩)
          case measure => simp [intOf]; omega
      · have hkm : m ≤ k := by
          rcases Nat.lt_or_ge k m with h1 | h1
          · exact absurd (by simpa using hx) (HNO.out k h1)
          · exact h1
        have HXX := Lib.hid hx
        clear hx hn1
        go_wp2_with (go_at_call 18; refine (who_at ea _ _ _ l _ (s + k) (by omega) _ (hg.below hbr) HN.out (hr.below hbr) HR1.out).mono ?_; rintro e w9 ⟨rfl, hb9⟩; have hx := HXX.out; generalize whoV l (s + k) = x at *)
        all_goals
          go_roundw
          case rel => first | exact ⟨k + 1, by omega, by go_num, by rw [HX.out, HXX.out]; first | rfl | go_num, hbr.trans (hb9.mono hbr.size)⟩ | ((repeat apply Exists.intro); exact ⟨⟨k + 1, by omega, by go_num, by rw [HX.out, HXX.out]; first | rfl | go_num, hbr.trans (hb9.mono hbr.size)⟩, rfl⟩)
          case measure => simp [intOf]; omega
    · obtain rfl : k = n := by omega
      have hRR : had l node s k = l.count node := by have h1 := HR.out; rw [HN.out] at h1; exact h1
      rw [hRR]
      have hz : ((l.count node : Int) != (l.count node : Int)) = false := by simp
      have HC := Lib.hid (fun (W : World) (hb : Below w.heap.size w W) => share_ok ea a k cap l node W (hgp.below hb) HN.out (hr.below hb) H0.out)
      have HWO := Lib.hid (fun (W : World) (hb : Below w.heap.size w W) => who_at ea a k cap l ((s : Int) + m) (s + m) (by omega) W (hg.below hb) HN.out (hr.below hb) (HRT.out m (by omega)))
      have HWW := HW.out
      rw [HWW] at HWO
      have hcn : (l.count node : Int) ≤ 40 := by have h1 := List.count_le_length (a := node) (l := l); have h2 := HN.out; omega
      generalize l.count node = cn at *
      go_wp2_with fail
      refine (HC.out _ hbr).mono ?_
      rintro e w10 ⟨rfl, hb10⟩
      have hb11 := hbr.trans (hb10.mono hbr.size)
      clear hb10
      go_wp2_with fail
      refine (HWO.out _ hb11).mono ?_
      rintro e w12 ⟨rfl, hb12⟩
      have hb13 := hb11.trans (hb12.mono hb11.size)
      clear hb12
      go_wp2
      go_ret
      exact ⟨rfl, hb13⟩

set_option maxHeartbeats 1600000 in
set_option maxRecDepth 100000 in
theorem planWaits_none (ea : Nat → Addr) (a : Option Addr) (n cap : Nat) (l : List Int) (node : Int) (s : Nat) (w : World) (hg : Glob w ea [5, 7, 4, 2]) (hn : l.length = n) (hr : RowAt w a (encInts l)) (h : n ≤ 40) (h0 : (planF l).1 = 0) (hs : s ≤ 999900)
    (hno : ∀ j, j < n → ¬ whoV l (s + j) = node) :
    Calls Tryd.prog 4 #[.slice a n cap, .int .i64 node, .int .i64 s] w fun e w' => e = .returned (.bool true) ∧ Below w.heap.size w w' := by
  have hgp : Glob w ea [5, 7, 4] := hg.sub (by simp)
  have hF := planF_ok h0
  have hn0 : 0 < n := by omega
  have HM := Lib.hid (hasB_crewOf hF.2.2.2 node)
  have hmem : ¬ node ∈ l := fun hx => by
    obtain ⟨j, hj, e⟩ := mem_whoV l s hF.2.1 node hx
    exact hno j (by omega) e
  have HME := Lib.hid hmem
  have H5 := Lib.hid (errV_pos ea (k := 5) (by decide))
  have HR := Lib.hid (had_round l node s hF.2.1)
  have HS := Lib.hid (had_succ l node s)
  have HL := Lib.hid (had_le l node s)
  have HRT := Lib.hid (fun (j : Nat) (hj : j ≤ 40) => rightF_mk h0 (s := s + j) (by omega))
  have HNO := Lib.hid hno
  have H0 := Lib.hid h0
  have HN := Lib.hid hn
  clear h0 hn hF hmem hno
  go_enter Tryd.func4, Tryd.ntmps4
  go_wp2_with (first
    | (go_at_call 13; refine (planned_any ea _ hg).mono ?_; rintro e w1 ⟨rfl, hb⟩)
    | (go_at_call 14; refine (planCheck_any ea _ _ _ l _ (hgp.below hb) HN.out (hr.below hb) (by omega)).mono ?_; rintro e w2 ⟨v, rfl, hE, hb2⟩; rw [H0.out] at hE; obtain rfl := hE.nil; have hb3 := hb.trans (hb2.mono hb.size); clear hE hb2 hb)
    | (go_at_call 15; refine (planCrew_ok ea _ _ _ l _ (hgp.below hb3) HN.out (hr.below hb3) H0.out).mono ?_; rintro e w4 ⟨rfl, hb4⟩; have hb5 := hb3.trans (hb4.mono hb3.size); clear hb3 hb4)
    | (go_at_call 16; refine (next_none ea _ _ _ l node s _ (hg.below hb5) HN.out (hr.below hb5) (HRT.out 0 (by omega)) HNO.out).mono ?_; rintro e w6 ⟨rfl, hb6⟩; rw [H5.out]; have hb7 := hb5.trans (hb6.mono hb5.size); clear hb5 hb6))
  go_quiet ((go_at_call 17; exact Calls.quiet_of_same ((has_any ea _ _ _ ((hg.below (below_drewN hb7 _)).sub (by simp))).mono fun _ _ ⟨h1, h2⟩ => ⟨h1, h2.symm⟩)))
  rw [HM.out, decide_eq_false HME.out]
  go_wp2
  have hbq := below_drewN hb7 nq
  generalize w6.drewN nq = w8 at *
  clear hb7
  go_loopw [11, 12] (fun c i wr => ∃ k : Nat, k ≤ n ∧ i = .int .i64 k ∧ c = .int .i64 (had l node s k) ∧ Below w.heap.size w wr) (fun _ i _ => n - (intOf i).toNat)
  case atStart => exact ⟨0, Nat.zero_le _, rfl, rfl, hbq⟩
  case round =>
    obtain ⟨k, hk, rfl, rfl, hbr⟩ := hrel
    have hle := HL.out k
    by_cases hlt : k < n
    · have HX := Lib.hid (HS.out k)
      have HR1 := Lib.hid (HRT.out k (by omega))
      have hx : (whoV l (s + k) == node) = false := by simpa using HNO.out k hlt
      have HXX := Lib.hid hx
      clear hx
      go_wp2_with (go_at_call 18; refine (who_at ea _ _ _ l _ (s + k) (by omega) _ (hg.below hbr) HN.out (hr.below hbr) HR1.out).mono ?_; rintro e w9 ⟨rfl, hb9⟩; have hx := HXX.out; generalize whoV l (s + k) = x at *)
      all_goals
        go_roundw
        case rel => first | exact ⟨k + 1, by omega, by go_num, by rw [HX.out, HXX.out]; first | rfl | go_num, hbr.trans (hb9.mono hbr.size)⟩ | ((repeat apply Exists.intro); exact ⟨⟨k + 1, by omega, by go_num, by rw [HX.out, HXX.out]; first | rfl | go_num, hbr.trans (hb9.mono hbr.size)⟩, rfl⟩)
        case measure => simp [intOf]; omega
    · obtain rfl : k = n := by omega
      have hRR : had l node s k = l.count node := by have h1 := HR.out; rw [HN.out] at h1; exact h1
      rw [hRR]
      have hz : ((l.count node : Int) != (l.count node : Int)) = false := by simp
      have HC := Lib.hid (fun (W : World) (hb : Below w.heap.size w W) => share_ok ea a k cap l node W (hgp.below hb) HN.out (hr.below hb) H0.out)
      have hcn : (l.count node : Int) ≤ 40 := by have h1 := List.count_le_length (a := node) (l := l); have h2 := HN.out; omega
      generalize l.count node = cn at *
      go_wp2_with fail
      refine (HC.out _ hbr).mono ?_
      rintro e w10 ⟨rfl, hb10⟩
      have hb11 := hbr.trans (hb10.mono hbr.size)
      clear hb10
      go_wp2_with fail
      refine (HC.out _ hb11).mono ?_
      rintro e w12 ⟨rfl, hb12⟩
      have hb13 := hb11.trans (hb12.mono hb11.size)
      clear hb12
      go_wp2
      go_ret
      exact ⟨rfl, hb13⟩

/-- The law's walk, whole. -/
theorem walk_PlanWaits (ea : Nat → Addr) (a : Option Addr) (n cap : Nat) (l : List Int) (node slot : Int) (w : World) (hg : Glob w ea [2, 4, 5, 7])
    (hn : l.length = n) (hr : RowAt w a (encInts l)) (_hc : n ≤ cap) (hb : n ≤ 4611686018427387904) (_h1 : -9223372036854775808 ≤ node ∧ node ≤ 9223372036854775807) (_h2 : -9223372036854775808 ≤ slot ∧ slot ≤ 9223372036854775807) :
    Calls Tryd.prog 4 #[.slice a n cap, .int .i64 node, .int .i64 slot] w fun e w' => e = .returned (.bool true) ∧ Below w.heap.size w w' := by
  have hg' : Glob w ea [5, 7, 4, 2] := hg.sub (by simp)
  by_cases h : 40 < n
  · exact planWaits_long ea a n cap node slot w hg' hb h
  · by_cases h0 : (planF l).1 = 0
    · by_cases hs : slot < 0 ∨ 999900 < slot
      · exact planWaits_slot ea a n cap l node slot w hg' hn hr (by omega) h0 hs
      · obtain ⟨s, rfl⟩ : ∃ s : Nat, slot = s := ⟨slot.toNat, by omega⟩
        rcases first_or_none (fun j => whoV l (s + j) = node) n with ⟨m, hm, h1, h2⟩ | h1
        · exact planWaits_found ea a n cap l node s m w hg' hn hr (by omega) h0 (by omega) hm h1 h2
        · exact planWaits_none ea a n cap l node s w hg' hn hr (by omega) h0 (by omega) h1
    · exact planWaits_bad ea a n cap l node slot w hg' hn hr (by omega) h0
end Go.Proofs.YtbhjjbfhncfbdaaDoor
