/- plan: one contract for each function, whatever the plan. -/
import Derived.Test.YtmikeblbfmfimaaDoorPlan2
namespace Go.Proofs.YtmikeblbfmfimaaDoor
open Go.RowKit

theorem planF_le (l : List Int) : (planF l).1 ≤ 11 := by unfold planF; repeat (first | (exact Nat.le_of_ble_eq_true rfl) | split)
theorem rightF_le (l : List Int) (s : Int) : (rightF l s).1 ≤ 11 := by
  unfold rightF; split
  · split <;> simp
  · exact planF_le l
theorem rightF_zero {l : List Int} {s : Int} (h : (rightF l s).1 = 0) : rightF l s = (0, -1) := by
  have h0 := (rightF_ok h)
  rw [rightF, if_pos h0.1, if_pos h0.2]
theorem rightF_bad {l : List Int} (h : (planF l).1 ≠ 0) (s : Int) : rightF l s = planF l := by rw [rightF, if_neg h]

def whoF (l : List Int) (s : Int) : Int := if (rightF l s).1 = 0 then whoV l s.toNat else 0
theorem who_any (ea : Nat → Addr) (a : Option Addr) (n cap : Nat) (l : List Int) (s : Int) (w : World) (hg : Glob w ea [5, 7, 4, 2]) (hn : l.length = n) (hr : RowAt w a (encInts l)) (hc : n ≤ 4611686018427387904) :
    Calls Tryd.prog 28 #[.slice a n cap, .int .i64 s] w fun e w' => ∃ v, e = .returned (.tuple #[.int .i64 (whoF l s), v]) ∧ ErrIs ea w' v (rightF l s).1 (rightF l s).2 ∧ Below w.heap.size w w' := by
  by_cases h : (rightF l s).1 = 0
  · have h1 := rightF_zero h
    obtain ⟨k, rfl⟩ : ∃ k : Nat, s = k := ⟨s.toNat, by have := (rightF_ok h).2.1; omega⟩
    refine (who_ok ea a n cap l k w hg hn hr h).mono ?_
    rintro e w' ⟨rfl, hb⟩
    exact ⟨_, by rw [whoF, if_pos h]; rfl, by rw [h1]; exact Or.inl ⟨rfl, (errV_zero ea).symm⟩, hb⟩
  · refine (who_err ea a n cap l s w hg hn hr hc h).mono ?_
    rintro e w' ⟨v, rfl, hE, hb⟩
    exact ⟨v, by rw [whoF, if_neg h], hE, hb⟩

def planCrewF (l : List Int) : Int := if (planF l).1 = 0 then crewOf l else 0
theorem planCrew_any (ea : Nat → Addr) (a : Option Addr) (n cap : Nat) (l : List Int) (w : World) (hg : Glob w ea [5, 7, 4]) (hn : l.length = n) (hr : RowAt w a (encInts l)) (hc : n ≤ 4611686018427387904) :
    Calls Tryd.prog 23 #[.slice a n cap] w fun e w' => ∃ v, e = .returned (.tuple #[.int .i64 (planCrewF l), v]) ∧ ErrIs ea w' v (planF l).1 (planF l).2 ∧ Below w.heap.size w w' := by
  by_cases h : (planF l).1 = 0
  · have h1 := (planF_ok h).1
    refine (planCrew_ok ea a n cap l w hg hn hr h).mono ?_
    rintro e w' ⟨rfl, hb⟩
    exact ⟨_, by rw [planCrewF, if_pos h], by rw [h1]; exact Or.inl ⟨rfl, (errV_zero ea).symm⟩, hb⟩
  · refine (planCrew_err ea a n cap l w hg hn hr hc h).mono ?_
    rintro e w' ⟨v, rfl, hE, hb⟩
    exact ⟨v, by rw [planCrewF, if_neg h], hE, hb⟩

def shareF (l : List Int) (node : Int) : Int := if (planF l).1 = 0 then l.count node else 0
theorem share_any (ea : Nat → Addr) (a : Option Addr) (n cap : Nat) (l : List Int) (node : Int) (w : World) (hg : Glob w ea [5, 7, 4]) (hn : l.length = n) (hr : RowAt w a (encInts l)) (hc : n ≤ 4611686018427387904) :
    Calls Tryd.prog 30 #[.slice a n cap, .int .i64 node] w fun e w' => e = .returned (.int .i64 (shareF l node)) ∧ Below w.heap.size w w' := by
  by_cases h : (planF l).1 = 0
  · rw [shareF, if_pos h]; exact share_ok ea a n cap l node w hg hn hr h
  · rw [shareF, if_neg h]; exact share_err ea a n cap l node w hg hn hr hc h

/-- The place of a node's next slot, from slot s on. -/
def nextAt (l : List Int) (node : Int) (s : Nat) : Option Nat := (List.range l.length).find? fun j => whoV l (s + j) == node
theorem nextAt_some {l : List Int} {node : Int} {s m : Nat} (hm : m < l.length) (hw : whoV l (s + m) = node) (hno : ∀ j, j < m → ¬ whoV l (s + j) = node) : nextAt l node s = some m := by
  rw [nextAt, List.find?_range_eq_some]
  refine ⟨by simpa using hw, by simpa using hm, fun j hj => by simpa using hno j hj⟩
theorem nextAt_none {l : List Int} {node : Int} {s : Nat} (hno : ∀ j, j < l.length → ¬ whoV l (s + j) = node) : nextAt l node s = none := by
  rw [nextAt, List.find?_range_eq_none]
  exact fun j hj => by simpa using hno j hj
def nextF (l : List Int) (node s : Int) : Int × Nat × Int :=
  if (rightF l s).1 = 0 then (match nextAt l node s.toNat with | some m => (s + m, 0, -1) | none => (0, 5, -1)) else (0, rightF l s)
theorem nextF_le (l : List Int) (node s : Int) : (nextF l node s).2.1 ≤ 11 := by
  unfold nextF; split
  · split <;> simp
  · exact rightF_le l s
theorem next_any (ea : Nat → Addr) (a : Option Addr) (n cap : Nat) (l : List Int) (node s : Int) (w : World) (hg : Glob w ea [5, 7, 4, 2]) (hn : l.length = n) (hr : RowAt w a (encInts l)) (hc : n ≤ 4611686018427387904) :
    Calls Tryd.prog 31 #[.slice a n cap, .int .i64 node, .int .i64 s] w fun e w' => ∃ v, e = .returned (.tuple #[.int .i64 (nextF l node s).1, v]) ∧ ErrIs ea w' v (nextF l node s).2.1 (nextF l node s).2.2 ∧ Below w.heap.size w w' := by
  by_cases h : (rightF l s).1 = 0
  · obtain ⟨k, rfl⟩ : ∃ k : Nat, s = k := ⟨s.toNat, by have := (rightF_ok h).2.1; omega⟩
    rcases first_or_none (fun j => whoV l (k + j) = node) n with ⟨m, hm, hw, hno⟩ | hno
    · have hF : nextF l node k = ((k : Int) + m, 0, -1) := by rw [nextF, if_pos h, Int.toNat_natCast, nextAt_some (by omega) hw hno]
      rw [hF]
      refine (next_ok ea a n cap l node k m w hg hn hr h hm hw hno).mono ?_
      rintro e w' ⟨rfl, hb⟩
      exact ⟨_, by rw [Int.natCast_add], Or.inl ⟨rfl, (errV_zero ea).symm⟩, hb⟩
    · have hF : nextF l node k = (0, 5, -1) := by rw [nextF, if_pos h, Int.toNat_natCast, nextAt_none (by rw [hn]; exact hno)]
      rw [hF]
      refine (next_none ea a n cap l node k w hg hn hr h hno).mono ?_
      rintro e w' ⟨rfl, hb⟩
      exact ⟨_, rfl, ErrIs.bare ea w' 5, hb⟩
  · have hF : nextF l node s = (0, rightF l s) := by rw [nextF, if_neg h]
    rw [hF]
    refine (next_err ea a n cap l node s w hg hn hr hc h).mono ?_
    rintro e w' ⟨v, rfl, hE, hb⟩
    exact ⟨v, rfl, hE, hb⟩

def roundA (l : List Int) (s : Int) : Int := if (rightF l s).1 = 0 then s / l.length else 0
def roundB (l : List Int) (s : Int) : Int := if (rightF l s).1 = 0 then s % l.length else 0
set_option maxHeartbeats 400000 in
theorem round_any (ea : Nat → Addr) (a : Option Addr) (n cap : Nat) (l : List Int) (s : Int) (w : World) (hg : Glob w ea [5, 7, 4, 2]) (hn : l.length = n) (hr : RowAt w a (encInts l)) (hc : n ≤ 4611686018427387904) :
    Calls Tryd.prog 29 #[.slice a n cap, .int .i64 s] w fun e w' => ∃ v, e = .returned (.tuple #[.int .i64 (roundA l s), .int .i64 (roundB l s), v]) ∧ ErrIs ea w' v (rightF l s).1 (rightF l s).2 ∧ Below w.heap.size w w' := by
  have C := Lib.hid (right_any ea a n cap l s w hg hn hr hc)
  by_cases h : (rightF l s).1 = 0
  · have h1 := rightF_zero h
    have hl := (planF_ok (rightF_ok h).1).2.1
    have hs := (rightF_ok h).2
    have ha : Hid (roundA l s = s / n) := by unfold Hid; rw [roundA, if_pos h, hn]
    have hb : Hid (roundB l s = s % n) := by unfold Hid; rw [roundB, if_pos h, hn]
    have hn0 : (0 : Int) < n := by omega
    have hnz : ((n : Int) == 0) = false := by simp; omega
    obtain ⟨hs0, hs1⟩ := hs
    have HE := Lib.hid h1
    clear h hn hl h1
    go_enter Tryd.func29, Tryd.ntmps29
    go_wp2_with fail
    refine C.out.mono ?_
    rintro e w1 ⟨v, rfl, hE, hbw⟩
    rw [HE.out] at hE
    obtain rfl := hE.nil
    go_wp2
    go_quiet (fail)
    go_wp2
    go_ret3
    exact ⟨_, by rw [ha.out, hb.out]; rfl, by rw [HE.out]; exact Or.inl ⟨rfl, (errV_zero ea).symm⟩, below_drewN hbw _⟩
  · have ha : Hid (roundA l s = 0) := by unfold Hid; rw [roundA, if_neg h]
    have hb : Hid (roundB l s = 0) := by unfold Hid; rw [roundB, if_neg h]
    have H0 := Lib.hid h
    clear h
    go_enter Tryd.func29, Tryd.ntmps29
    go_wp2_with fail
    refine C.out.mono ?_
    rintro e w1 ⟨v, rfl, hE, hbw⟩
    obtain ⟨t, x, rfl⟩ := hE.held H0.out
    go_wp2
    go_ret3
    exact ⟨_, by rw [ha.out, hb.out]; rfl, hE, hbw⟩
end Go.Proofs.YtmikeblbfmfimaaDoor
