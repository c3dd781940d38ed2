/- the reference's PlanFault, SlotFault, powerOf, CrewOf, NextOf. -/
import Derived.Test.YtgghnncgeogemaaGreatDoorRefBase
import Derived.Test.YtgghnncgeogemaaGreatDoorSumBits
import Derived.Test.YtgghnncgeogemaaGreatDoorPlan
import Derived.Test.YtgghnncgeogemaaGreatDoorClique
namespace Go.Proofs.YtgghnncgeogemaaGreatDoor
open Go.RowKit

theorem planFault_any (a : Option Addr) (n cap : Nat) (l : List Int) (w : World) (hn : l.length = n) (hr : RowAt w a (encInts l)) (hc : n ≤ 4611686018427387904) :
    Calls Tryz.prog 61 #[.slice a n cap] w fun e w' => e = .returned (.agg #[.int .i64 (planF l).1, .int .i64 (planF l).2]) ∧ Below w.heap.size w w' := by
  have HN := Lib.hid hn
  by_cases h0 : n = 0
  · have HP : Hid (planF l = (5, -1)) := by unfold Hid; rw [planF, if_pos (by omega)]
    subst h0
    clear hn
    go_enter Tryz.func61, Tryz.ntmps61
    go_wp2_with (go_at_call 62; refine (bare_any _ _).mono ?_; rintro e w1 ⟨rfl, hb⟩; obtain ⟨c0, c1, f0, f1, z1, hw1⟩ := own2 hb)
    refine bodyPost_ret (v := .agg #[.int .i64 5, .int .i64 (-1)]) (by simp [results, Tryz.results61, go_sem, c0, c1]) rfl ?_
    rw [HP.out]
    exact ⟨rfl, (hw1.setCell (by simp) _).setCell (by simp) _⟩
  · have hz : ((n : Int) == 0) = false := by simp; omega
    by_cases h1 : 32 < n
    · have HP : Hid (planF l = (7, -1)) := by unfold Hid; rw [planF, if_neg (by omega), if_pos (by omega)]
      clear h0 hn
      go_enter Tryz.func61, Tryz.ntmps61
      go_wp2_with (go_at_call 62; refine (bare_any _ _).mono ?_; rintro e w1 ⟨rfl, hb⟩; obtain ⟨c0, c1, f0, f1, z1, hw1⟩ := own2 hb)
      refine bodyPost_ret (v := .agg #[.int .i64 7, .int .i64 (-1)]) (by simp [results, Tryz.results61, go_sem, c0, c1]) rfl ?_
      rw [HP.out]
      exact ⟨rfl, (hw1.setCell (by simp) _).setCell (by simp) _⟩
    · have HP : Hid (planF l = if badIdx 0 l < 0 then (0, -1) else (4, badIdx 0 l)) := by unfold Hid; rw [planF, if_neg (by omega), if_neg (by omega)]
      have hd : decide ((32 : Int) < (n : Int)) = false := by simp; omega
      clear h0 hn
      go_enter Tryz.func61, Tryz.ntmps61
      go_wp2
      go_loop [3] (fun i => ∃ k : Nat, k ≤ n ∧ i = .int .i64 k ∧ Hid (badIdx k (l.drop k) = badIdx 0 l)) (fun i => n - (intOf i).toNat)
      case atStart => exact ⟨0, Nat.zero_le _, rfl, rfl⟩
      case round =>
        obtain ⟨k, hk, rfl, HK⟩ := hrel
        by_cases hlt : k < n
        · have hkt : k < l.length := by have := HN.out; omega
          have hw0 : Below w.heap.size w (w.alloc (.cells #[.int .i64 0, .int .i64 0] 42)) := (Below.refl _ _).alloc (Nat.le_refl _) _
          obtain ⟨b, off, rfl, hbl, c0⟩ := (hr.below hw0).int k hkt
          have hdr : l.drop k = l[k] :: l.drop (k + 1) := List.drop_eq_getElem_cons hkt
          have hi0 : (0 : Int) ≤ (k : Int) := by omega
          have hi1 : (k : Int) < (n : Int) := by omega
          generalize l[k] = x at *
          cases hx : nodeB x
          · have HS : Hid (badIdx 0 l = k) := by unfold Hid at HK ⊢; rw [← HK, hdr, badIdx, hx]; rfl
            have HX := Lib.hid hx
            clear hdr hx HK hw0
            go_wp2_with (go_at_call 40; refine (isNode_any _ _).mono ?_; rintro e w1 ⟨rfl, rfl⟩; rw [HX.out])
            refine bodyPost_ret (v := .agg #[.int .i64 4, .int .i64 k]) (by simp [results, Tryz.results61, go_sem]) rfl ?_
            rw [HP.out, HS.out, if_neg (by omega)]
            exact ⟨rfl, (Below.refl _ _).alloc (Nat.le_refl _) _⟩
          · have HS : Hid (badIdx (k + 1 : Nat) (l.drop (k + 1)) = badIdx 0 l) := by unfold Hid at HK ⊢; rw [← HK, hdr, badIdx, hx]; rfl
            have HX := Lib.hid hx
            clear hdr hx HK hw0
            go_wp2_with (go_at_call 40; refine (isNode_any _ _).mono ?_; rintro e w1 ⟨rfl, rfl⟩; rw [HX.out])
            go_round
            case rel => exact ⟨k + 1, by omega, by go_num, HS⟩
            case measure => simp [intOf]; omega
        · have HS : Hid (badIdx 0 l = -1) := by unfold Hid at HK ⊢; rw [← HK, List.drop_eq_nil_of_le (by have := HN.out; omega)]; rfl
          go_wp2_with (go_at_call 57; refine (fine_any _).mono ?_; rintro e w1 ⟨rfl, hb⟩; obtain ⟨c0, c1, f0, f1, z1, hw1⟩ := own2 hb)
          refine bodyPost_ret (v := .agg #[.int .i64 0, .int .i64 (-1)]) (by simp [results, Tryz.results61, go_sem, c0, c1]) rfl ?_
          rw [HP.out, HS.out, if_pos (by omega)]
          exact ⟨rfl, (hw1.setCell (by simp) _).setCell (by simp) _⟩


theorem powerOf_any (k : Nat) (w : World) (hk : k < 16) :
    Calls Tryz.prog 41 #[.int .i64 ((k : Int) + 1)] w fun e w' => e = .returned (.int .i64 (pw k)) ∧ w = w' := by
  go_enter Tryz.func41, Tryz.ntmps41
  go_wp2
  go_loop [3, 4] (fun p i => ∃ j : Nat, j ≤ k ∧ i = .int .i64 ((j : Int) + 1) ∧ p = .int .i64 (pw j)) (fun _ i => 17 - (intOf i).toNat)
  case atStart => exact ⟨0, Nat.zero_le _, by simp, by simp [pw]⟩
  case round =>
    obtain ⟨j, hj, rfl, rfl⟩ := hrel
    have hp := pw_le (k := j) (by omega)
    have HS := Lib.hid (pw_succ j)
    by_cases hlt : j < k
    · go_wp2
      go_round
      case rel => exact ⟨j + 1, by omega, by go_num, by rw [HS.out]; go_num⟩
      case measure => simp [intOf]; omega
    · obtain rfl : j = k := by omega
      go_wp2
      go_ret
      exact ⟨rfl, rfl⟩

def inB (l : List Int) (i : Nat) : Bool := decide (((i : Int) + 1) ∈ l)
/-- The reference's CrewOf. -/
def crewF (l : List Int) : Int × Nat × Int := if badIdx 0 l < 0 then (crewOf l, 0, -1) else (0, 4, badIdx 0 l)

set_option maxRecDepth 100000 in
set_option maxHeartbeats 800000 in
theorem refCrewOf_any (a : Option Addr) (n cap : Nat) (l : List Int) (w : World) (hn : l.length = n) (hr : RowAt w a (encInts l)) (hc : n ≤ 4611686018427387904) :
    Calls Tryz.prog 26 #[.slice a n cap] w fun e w' => e = .returned (.tuple #[.int .i64 (crewF l).1, .agg #[.int .i64 (crewF l).2.1, .int .i64 (crewF l).2.2]]) ∧ Below w.heap.size w w' := by
  have HN := Lib.hid hn
  have hw0 : Below w.heap.size w (w.alloc (.cells #[.int .i64 0, .int .i64 0] 42)) := (Below.refl _ _).alloc (Nat.le_refl _) _
  have HR := Lib.hid (hr.below hw0)
  clear hn hw0
  go_enter Tryz.func26, Tryz.ntmps26
  go_wp2
  go_loop [4] (fun i => ∃ k : Nat, k ≤ n ∧ i = .int .i64 k ∧ Hid (badIdx k (l.drop k) = badIdx 0 l)) (fun i => n - (intOf i).toNat)
  case atStart => exact ⟨0, Nat.zero_le _, rfl, rfl⟩
  case round =>
    obtain ⟨k, hk, rfl, HK⟩ := hrel
    by_cases hlt : k < n
    · have hkt : k < l.length := by have := HN.out; omega
      obtain ⟨b, off, rfl, hbl, c0⟩ := HR.out.int k hkt
      have hdr : l.drop k = l[k] :: l.drop (k + 1) := List.drop_eq_getElem_cons hkt
      have hi0 : (0 : Int) ≤ (k : Int) := by omega
      have hi1 : (k : Int) < (n : Int) := by omega
      generalize l[k] = x at *
      cases hx : nodeB x
      · have HS : Hid (badIdx 0 l = k) := by unfold Hid at HK ⊢; rw [← HK, hdr, badIdx, hx]; rfl
        have HX := Lib.hid hx
        clear hdr hx HK
        go_wp2_with (go_at_call 40; refine (isNode_any _ _).mono ?_; rintro e w1 ⟨rfl, rfl⟩; rw [HX.out])
        refine bodyPost_ret (v := .tuple #[.int .i64 0, .agg #[.int .i64 4, .int .i64 k]]) (by simp [results, Tryz.results26, go_sem]) rfl ?_
        rw [crewF, HS.out, if_neg (by omega)]
        exact ⟨rfl, (Below.refl _ _).alloc (Nat.le_refl _) _⟩
      · have HS : Hid (badIdx (k + 1 : Nat) (l.drop (k + 1)) = badIdx 0 l) := by unfold Hid at HK ⊢; rw [← HK, hdr, badIdx, hx]; rfl
        have HX := Lib.hid hx
        clear hdr hx HK
        go_wp2_with (go_at_call 40; refine (isNode_any _ _).mono ?_; rintro e w1 ⟨rfl, rfl⟩; rw [HX.out])
        go_round
        case rel => exact ⟨k + 1, by omega, by go_num, HS⟩
        case measure => simp [intOf]; omega
    · have HS : Hid (badIdx 0 l = -1) := by unfold Hid at HK ⊢; rw [← HK, List.drop_eq_nil_of_le (by have := HN.out; omega)]; rfl
      have HC : Hid (sumBits (inB l) 16 = crewOf l) := crewOf_sum ((badIdx_neg l 0 (by omega)).1 (by rw [HS.out]; omega))
      clear HK
      go_wp2
      go_loop [6, 7] (fun c i => ∃ j : Nat, j ≤ 16 ∧ i = .int .i64 ((j : Int) + 1) ∧ c = .int .i64 (sumBits (inB l) j)) (fun _ i => 18 - (intOf i).toNat)
      case atStart => exact ⟨0, Nat.zero_le _, by simp, by simp [sumBits]⟩
      case round =>
        obtain ⟨j, hj, rfl, rfl⟩ := hrel
        by_cases hlt : j < 16
        · have hp := pw_le (k := j) (by omega)
          have hs : sumBits (inB l) j ≤ 65536 := by
            have := sumBits_lt (inB l) j
            have h2 := Nat.pow_le_pow_right (n := 2) (by omega) (show j ≤ 16 by omega)
            simp only [Nat.reducePow] at h2; omega
          have HS2 : Hid (sumBits (inB l) (j + 1) = sumBits (inB l) j + if decide (((j : Int) + 1) ∈ l) then pw j else 0) := rfl
          cases hm : decide (((j : Int) + 1) ∈ l)
          all_goals
            rw [hm] at HS2
            have HM := Lib.hid hm
            clear hm
            generalize sumBits (inB l) j = S at *
            go_wp2_with (first
              | (go_at_call 56; refine (inInts_any _ _ _ _ l _ HN.out HR.out hc).mono ?_; rintro e w1 ⟨rfl, rfl⟩; rw [HM.out])
              | (go_at_call 41; refine (powerOf_any _ _ hlt).mono ?_; rintro e w1 ⟨rfl, rfl⟩))
            go_round
            case rel => exact ⟨j + 1, by omega, by go_num, by rw [HS2.out]; first | rfl | (rw [if_pos rfl]; go_num)⟩
            case measure => simp [intOf]; omega
        · obtain rfl : j = 16 := by omega
          rw [HC.out]
          go_wp2_with (go_at_call 57; refine (fine_any _).mono ?_; rintro e w1 ⟨rfl, hb⟩; obtain ⟨c0, c1, f0, f1, z1, hw1⟩ := own2 hb)
          refine bodyPost_ret (v := .tuple #[.int .i64 (crewOf l), .agg #[.int .i64 0, .int .i64 (-1)]]) (by simp [results, Tryz.results26, go_sem, c0, c1]) rfl ?_
          rw [crewF, HS.out, if_pos (by omega)]
          exact ⟨rfl, (hw1.setCell (by simp) _).setCell (by simp) _⟩
end Go.Proofs.YtgghnncgeogemaaGreatDoor
