/- plan: Who, Next, Crew, Share. -/
import Derived.Test.YtmikeblbfmfimaaDoorPlan
namespace Go.Proofs.YtmikeblbfmfimaaDoor
open Go.RowKit

theorem intD {w : World} {a : Option Addr} {l : List Int} (h : RowAt w a (encInts l)) (k : Nat) (hk : k < l.length) :
    ∃ b off, a = some ⟨b, off, none⟩ ∧ b < w.heap.size ∧ w.cell? ⟨b, off + k, none⟩ = some (.int .i64 (l.getD k 0)) := by
  obtain ⟨b, off, e, hb, hc⟩ := h.int k hk
  exact ⟨b, off, e, hb, by rw [hc, List.getD_eq_getElem?_getD, List.getElem?_eq_getElem hk]; rfl⟩

/-- Who has a slot of a right plan. -/
def whoV (l : List Int) (s : Nat) : Int := l.getD (s % l.length) 0

theorem rightF_ok {l : List Int} {s : Int} (h : (rightF l s).1 = 0) : (planF l).1 = 0 ∧ 0 ≤ s ∧ s ≤ 1000000 := by
  unfold rightF at h
  split at h
  · rename_i h0
    split at h
    · rename_i hs; exact ⟨h0, hs.1, hs.2⟩
    · simp at h
  · rename_i h0; exact absurd h h0

theorem who_ok (ea : Nat → Addr) (a : Option Addr) (n cap : Nat) (l : List Int) (s : Nat) (w : World) (hg : Glob w ea [5, 7, 4, 2]) (hn : l.length = n) (hr : RowAt w a (encInts l)) (h : (rightF l s).1 = 0) :
    Calls Tryd.prog 28 #[.slice a n cap, .int .i64 s] w fun e w' => e = .returned (.tuple #[.int .i64 (whoV l s), .nilIface]) ∧ Below w.heap.size w w' := by
  have hF := planF_ok (rightF_ok h).1
  have hs := (rightF_ok h).2.2
  have hlen := hF.2.1
  have hlen2 := hF.2.2.1
  have hm : s % n < n := Nat.mod_lt _ (by omega)
  obtain ⟨b, off, rfl, hbl, c0⟩ := intD hr (s % n) (by omega)
  have hV : Hid (whoV l s = l.getD (s % n) 0) := by unfold Hid; rw [whoV, hn]
  have hc : n ≤ 4611686018427387904 := by omega
  have hn0 : 0 < n := by omega
  have hnz : ((n : Int) == 0) = false := by simp; omega
  have HN := Lib.hid hn
  have H := Lib.hid h
  clear hF hlen hlen2 h hn
  generalize l.getD (s % n) 0 = x at *
  go_enter Tryd.func28, Tryd.ntmps28
  go_wp2_with (go_at_call 77; refine (right_any ea _ _ _ l _ _ hg HN.out hr hc).mono ?_; rintro e w1 ⟨v, rfl, hE, hb⟩; rw [H.out] at hE; obtain rfl := hE.nil; have c1 := (hb.cell (p := ⟨b, off + s % n, none⟩) hbl).trans c0)
  go_ret2
  rw [hV.out]
  exact ⟨rfl, hb⟩
theorem who_err (ea : Nat → Addr) (a : Option Addr) (n cap : Nat) (l : List Int) (s : Int) (w : World) (hg : Glob w ea [5, 7, 4, 2]) (hn : l.length = n) (hr : RowAt w a (encInts l)) (hc : n ≤ 4611686018427387904) (h : (rightF l s).1 ≠ 0) :
    Calls Tryd.prog 28 #[.slice a n cap, .int .i64 s] w fun e w' => ∃ v, e = .returned (.tuple #[.int .i64 0, v]) ∧ ErrIs ea w' v (rightF l s).1 (rightF l s).2 ∧ Below w.heap.size w w' := by
  have HN := Lib.hid hn
  have H := Lib.hid h
  clear h hn
  go_enter Tryd.func28, Tryd.ntmps28
  go_wp2_with (go_at_call 77; refine (right_any ea _ _ _ l _ _ hg HN.out hr hc).mono ?_; rintro e w1 ⟨v, rfl, hE, hb⟩; obtain ⟨t, x, rfl⟩ := hE.held H.out)
  go_ret2
  exact ⟨_, rfl, hE, hb⟩

theorem first_or_none (p : Nat → Prop) : ∀ n : Nat, (∃ k, k < n ∧ p k ∧ ∀ j, j < k → ¬ p j) ∨ ∀ j, j < n → ¬ p j
  | 0 => Or.inr (fun j h => by omega)
  | n + 1 => by
    rcases first_or_none p n with ⟨k, hk, h1, h2⟩ | h
    · exact Or.inl ⟨k, by omega, h1, h2⟩
    · by_cases hp : p n
      · exact Or.inl ⟨n, by omega, hp, h⟩
      · exact Or.inr (fun j hj => by
          rcases Nat.lt_succ_iff_lt_or_eq.1 hj with h' | rfl
          · exact h j h'
          · exact hp)

theorem next_loop_cell {w : World} {a : Option Addr} {l : List Int} {n : Nat} (s k : Nat) (hr : RowAt w a (encInts l)) (hn : l.length = n) (h0 : 0 < n) :
    ∃ b off, a = some ⟨b, off, none⟩ ∧ b < w.heap.size ∧ w.cell? ⟨b, off + (s + k) % n, none⟩ = some (.int .i64 (whoV l (s + k))) := by
  obtain ⟨b, off, e, hb, hc⟩ := intD hr ((s + k) % n) (by rw [hn]; exact Nat.mod_lt _ h0)
  exact ⟨b, off, e, hb, by rw [hc, whoV, hn]⟩

set_option maxHeartbeats 400000 in
theorem next_ok (ea : Nat → Addr) (a : Option Addr) (n cap : Nat) (l : List Int) (node : Int) (s m : Nat) (w : World) (hg : Glob w ea [5, 7, 4, 2]) (hn : l.length = n) (hr : RowAt w a (encInts l)) (h : (rightF l s).1 = 0)
    (hm : m < n) (hw : whoV l (s + m) = node) (hno : ∀ j, j < m → ¬ whoV l (s + j) = node) :
    Calls Tryd.prog 31 #[.slice a n cap, .int .i64 node, .int .i64 s] w fun e w' => e = .returned (.tuple #[.int .i64 ((s + m : Nat) : Int), .nilIface]) ∧ Below w.heap.size w w' := by
  have hF := planF_ok (rightF_ok h).1
  have hs := (rightF_ok h).2.2
  have hc : n ≤ 32 := by omega
  have hn0 : 0 < n := by omega
  have hnz : ((n : Int) == 0) = false := by simp; omega
  have HN := Lib.hid hn
  have H := Lib.hid h
  have HW := Lib.hid hw
  have HNO := Lib.hid hno
  clear hF h hn hw hno
  go_enter Tryd.func31, Tryd.ntmps31
  go_wp2_with (go_at_call 77; refine (right_any ea _ _ _ l _ _ hg HN.out hr (by omega)).mono ?_; rintro e w1 ⟨v, rfl, hE, hb⟩; rw [H.out] at hE; obtain rfl := hE.nil)
  go_loop [18] (fun i => ∃ k : Nat, k ≤ m ∧ i = .int .i64 k) (fun i => n - (intOf i).toNat)
  case atStart => exact ⟨0, Nat.zero_le _, rfl⟩
  case round =>
    obtain ⟨k, hk, rfl⟩ := hrel
    obtain ⟨b, off, rfl, hbl, c0⟩ := next_loop_cell s k (hr.below hb) HN.out hn0
    have hkn : k < n := by omega
    have hm1 := Nat.mod_lt (s + k) hn0
    have hm2 : 0 ≤ ((s : Int) + k) % n := Int.emod_nonneg _ (by omega)
    have hm3 : ((s : Int) + k) % n < n := Int.emod_lt_of_pos _ (by omega)
    by_cases hlt : k < m
    · have hx : (whoV l (s + k) == node) = false := by simpa using HNO.out k hlt
      generalize whoV l (s + k) = x at *
      go_wp2
      go_round
      case rel => exact ⟨k + 1, by omega, by go_num⟩
      case measure => simp [intOf]; omega
    · obtain rfl : k = m := by omega
      have hx : (whoV l (s + k) == node) = true := by simpa using HW.out
      generalize whoV l (s + k) = x at *
      go_wp2
      go_ret2
      exact ⟨by simp, hb⟩

set_option maxHeartbeats 400000 in
theorem next_none (ea : Nat → Addr) (a : Option Addr) (n cap : Nat) (l : List Int) (node : Int) (s : Nat) (w : World) (hg : Glob w ea [5, 7, 4, 2]) (hn : l.length = n) (hr : RowAt w a (encInts l)) (h : (rightF l s).1 = 0)
    (hno : ∀ j, j < n → ¬ whoV l (s + j) = node) :
    Calls Tryd.prog 31 #[.slice a n cap, .int .i64 node, .int .i64 s] w fun e w' => e = .returned (.tuple #[.int .i64 0, errV ea 5]) ∧ Below w.heap.size w w' := by
  have hF := planF_ok (rightF_ok h).1
  have hs := (rightF_ok h).2.2
  have hc : n ≤ 32 := by omega
  have hn0 : 0 < n := by omega
  have hnz : ((n : Int) == 0) = false := by simp; omega
  have HN := Lib.hid hn
  have H := Lib.hid h
  have HNO := Lib.hid hno
  clear hF h hn hno
  go_enter Tryd.func31, Tryd.ntmps31
  go_wp2_with (go_at_call 77; refine (right_any ea _ _ _ l _ _ hg HN.out hr (by omega)).mono ?_; rintro e w1 ⟨v, rfl, hE, hb⟩; rw [H.out] at hE; obtain rfl := hE.nil)
  have g5 := (hg.below hb).cell 5 (by simp)
  simp only [gOf] at g5
  go_loop [18] (fun i => ∃ k : Nat, k ≤ n ∧ i = .int .i64 k) (fun i => n - (intOf i).toNat)
  case atStart => exact ⟨0, Nat.zero_le _, rfl⟩
  case round =>
    obtain ⟨k, hk, rfl⟩ := hrel
    by_cases hlt : k < n
    · obtain ⟨b, off, rfl, hbl, c0⟩ := next_loop_cell s k (hr.below hb) HN.out hn0
      have hm1 := Nat.mod_lt (s + k) hn0
      have hm2 : 0 ≤ ((s : Int) + k) % n := Int.emod_nonneg _ (by omega)
      have hm3 : ((s : Int) + k) % n < n := Int.emod_lt_of_pos _ (by omega)
      have hx : (whoV l (s + k) == node) = false := by simpa using HNO.out k hlt
      generalize whoV l (s + k) = x at *
      go_wp2
      go_round
      case rel => exact ⟨k + 1, by omega, by go_num⟩
      case measure => simp [intOf]; omega
    · go_wp2
      go_quiet (fail)
      go_wp2
      go_ret2
      exact ⟨rfl, below_drewN hb _⟩

theorem next_err (ea : Nat → Addr) (a : Option Addr) (n cap : Nat) (l : List Int) (node s : Int) (w : World) (hg : Glob w ea [5, 7, 4, 2]) (hn : l.length = n) (hr : RowAt w a (encInts l)) (hc : n ≤ 4611686018427387904) (h : (rightF l s).1 ≠ 0) :
    Calls Tryd.prog 31 #[.slice a n cap, .int .i64 node, .int .i64 s] w fun e w' => ∃ v, e = .returned (.tuple #[.int .i64 0, v]) ∧ ErrIs ea w' v (rightF l s).1 (rightF l s).2 ∧ Below w.heap.size w w' := by
  have HN := Lib.hid hn
  have H := Lib.hid h
  clear h hn
  go_enter Tryd.func31, Tryd.ntmps31
  go_wp2_with (go_at_call 77; refine (right_any ea _ _ _ l _ _ hg HN.out hr hc).mono ?_; rintro e w1 ⟨v, rfl, hE, hb⟩; obtain ⟨t, x, rfl⟩ := hE.held H.out)
  go_ret2
  exact ⟨_, rfl, hE, hb⟩

theorem planCrew_ok (ea : Nat → Addr) (a : Option Addr) (n cap : Nat) (l : List Int) (w : World) (hg : Glob w ea [5, 7, 4]) (hn : l.length = n) (hr : RowAt w a (encInts l)) (h : (planF l).1 = 0) :
    Calls Tryd.prog 23 #[.slice a n cap] w fun e w' => e = .returned (.tuple #[.int .i64 (crewOf l), .nilIface]) ∧ Below w.heap.size w w' := by
  have hF := planF_ok h
  have hc : n ≤ 32 := by omega
  have HA := Lib.hid hF.2.2.2
  have HN := Lib.hid hn
  have H := Lib.hid h
  clear hF h hn
  go_enter Tryd.func23, Tryd.ntmps23
  go_wp2_with (first
    | (go_at_call 26; refine (planCheck_any ea _ _ _ l _ hg HN.out hr (by omega)).mono ?_; rintro e w1 ⟨v, rfl, hE, hb⟩; rw [H.out] at hE; obtain rfl := hE.nil)
    | (go_at_call 71; refine (of_ok _ _ _ l _ HN.out (hr.below hb) (by omega) HA.out).mono ?_; rintro e w2 ⟨rfl, rfl⟩))
  go_ret2
  exact ⟨rfl, hb⟩
theorem planCrew_err (ea : Nat → Addr) (a : Option Addr) (n cap : Nat) (l : List Int) (w : World) (hg : Glob w ea [5, 7, 4]) (hn : l.length = n) (hr : RowAt w a (encInts l)) (hc : n ≤ 4611686018427387904) (h : (planF l).1 ≠ 0) :
    Calls Tryd.prog 23 #[.slice a n cap] w fun e w' => ∃ v, e = .returned (.tuple #[.int .i64 0, v]) ∧ ErrIs ea w' v (planF l).1 (planF l).2 ∧ Below w.heap.size w w' := by
  have HN := Lib.hid hn
  have H := Lib.hid h
  clear h hn
  go_enter Tryd.func23, Tryd.ntmps23
  go_wp2_with (go_at_call 26; refine (planCheck_any ea _ _ _ l _ hg HN.out hr hc).mono ?_; rintro e w1 ⟨v, rfl, hE, hb⟩; obtain ⟨t, x, rfl⟩ := hE.held H.out)
  go_ret2
  exact ⟨_, rfl, hE, hb⟩

theorem count_snoc (l : List Int) (x : Int) (k : Nat) (hk : k < l.length) : ((l.take (k + 1)).count x : Int) = (l.take k).count x + (if l.getD k 0 == x then 1 else 0) := by
  rw [List.take_succ_eq_append_getElem hk, List.count_append, List.getD_eq_getElem?_getD, List.getElem?_eq_getElem hk]
  simp only [List.count_singleton, Option.getD_some]
  split <;> simp

set_option maxHeartbeats 400000 in
theorem share_ok (ea : Nat → Addr) (a : Option Addr) (n cap : Nat) (l : List Int) (node : Int) (w : World) (hg : Glob w ea [5, 7, 4]) (hn : l.length = n) (hr : RowAt w a (encInts l)) (h : (planF l).1 = 0) :
    Calls Tryd.prog 30 #[.slice a n cap, .int .i64 node] w fun e w' => e = .returned (.int .i64 (l.count node)) ∧ Below w.heap.size w w' := by
  have hF := planF_ok h
  have hc : n ≤ 32 := by omega
  have HN := Lib.hid hn
  have H := Lib.hid h
  clear hF h hn
  go_enter Tryd.func30, Tryd.ntmps30
  go_wp2_with (go_at_call 26; refine (planCheck_any ea _ _ _ l _ hg HN.out hr (by omega)).mono ?_; rintro e w1 ⟨v, rfl, hE, hb⟩; rw [H.out] at hE; obtain rfl := hE.nil)
  go_loop [5, 13] (fun c i => ∃ k : Nat, k ≤ n ∧ i = .int .i64 k ∧ c = .int .i64 ((l.take k).count node)) (fun _ i => n - (intOf i).toNat)
  case atStart => exact ⟨0, Nat.zero_le _, rfl, rfl⟩
  case round =>
    obtain ⟨k, hk, rfl, rfl⟩ := hrel
    by_cases hlt : k < n
    · have hkt : k < l.length := by have := HN.out; omega
      obtain ⟨b, off, rfl, hbl, c0⟩ := intD (hr.below hb) k hkt
      have HS := Lib.hid (count_snoc l node k hkt)
      have hle : ((l.take k).count node : Int) ≤ 32 := by have := List.count_le_length (a := node) (l := l.take k); have := List.length_take_le k l; omega
      have hge : (0 : Int) ≤ ((l.take k).count node : Int) := by omega
      generalize l.getD k 0 = x at *
      clear hkt
      cases hx : (x == node)
      all_goals
        have HX := Lib.hid hx
        go_wp2
        go_round
        case rel => exact ⟨k + 1, by omega, by go_num, by rw [HS.out, HX.out]; first | rfl | go_num⟩
        case measure => simp [intOf]; omega
    · have e1 : l.take k = l := List.take_of_length_le (by have := HN.out; omega)
      rw [e1]
      clear e1
      go_wp2
      go_ret
      exact ⟨rfl, hb⟩
theorem share_err (ea : Nat → Addr) (a : Option Addr) (n cap : Nat) (l : List Int) (node : Int) (w : World) (hg : Glob w ea [5, 7, 4]) (hn : l.length = n) (hr : RowAt w a (encInts l)) (hc : n ≤ 4611686018427387904) (h : (planF l).1 ≠ 0) :
    Calls Tryd.prog 30 #[.slice a n cap, .int .i64 node] w fun e w' => e = .returned (.int .i64 0) ∧ Below w.heap.size w w' := by
  have HN := Lib.hid hn
  have H := Lib.hid h
  clear h hn
  go_enter Tryd.func30, Tryd.ntmps30
  go_wp2_with (go_at_call 26; refine (planCheck_any ea _ _ _ l _ hg HN.out hr hc).mono ?_; rintro e w1 ⟨v, rfl, hE, hb⟩; obtain ⟨t, x, rfl⟩ := hE.held H.out)
  go_ret
  exact ⟨rfl, hb⟩
end Go.Proofs.YtmikeblbfmfimaaDoor
