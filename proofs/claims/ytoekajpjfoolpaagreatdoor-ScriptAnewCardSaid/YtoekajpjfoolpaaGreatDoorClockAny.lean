/- clock: far, right, Mid, Set, Spread. · Clocks: the plain laws of the middle of sorted numbers. · clock.Mid in one contract; Spread of numbers that are not too far; the closed fact of clocks. -/
import Derived.Test.YtoekajpjfoolpaaGreatDoorSorted
import Derived.Test.YtoekajpjfoolpaaGreatDoorLib
import Derived.BigQuiet
import Derived.Deep.QuietTactic
namespace Go.Proofs.YtoekajpjfoolpaaGreatDoor
open Go.RowKit Go.Shelf

theorem onto' {w W w' : World} (h : Below w.heap.size w W) (h2 : Below W.heap.size W w') : Below w.heap.size w w' := h.trans (h2.mono h.size)

def farB (n : Int) : Bool := decide (n < -1000000 ∨ 1000000 < n)
theorem far_any (n : Int) (w : World) : Calls Tryz.prog 276 #[.int .i64 n] w fun e w' => e = .returned (.bool (farB n)) ∧ w = w' := by
  by_cases h : n < -1000000
  · have HF := Lib.hid (show farB n = true by simp [farB]; omega)
    go_enter Tryz.func276, Tryz.ntmps276
    go_wp2
    go_ret
    exact ⟨ret_bool HF.out.symm, rfl⟩
  · have hd : decide (n < -1000000) = false := by simpa using h
    by_cases h2 : 1000000 < n
    · have HF := Lib.hid (show farB n = true by simp [farB]; omega)
      go_enter Tryz.func276, Tryz.ntmps276
      go_wp2
      go_ret
      exact ⟨ret_bool HF.out.symm, rfl⟩
    · have HF := Lib.hid (show farB n = false by simp [farB]; omega)
      go_enter Tryz.func276, Tryz.ntmps276
      go_wp2
      go_ret
      exact ⟨ret_bool HF.out.symm, rfl⟩

/-- The first that is too far, from place i on; below 0: none. -/
def farIdx (i : Int) : List Int → Int
  | [] => -1
  | x :: r => if farB x then i else farIdx (i + 1) r
theorem farIdx_neg : ∀ (l : List Int) (i : Int), 0 ≤ i → (farIdx i l < 0 ↔ ∀ x ∈ l, farB x = false)
  | [], i, _ => by simp [farIdx]
  | x :: r, i, h => by
    rw [farIdx]
    cases hx : farB x
    · simp only [Bool.false_eq_true, if_false, List.mem_cons, forall_eq_or_imp, hx, true_and]; exact farIdx_neg r (i + 1) (by omega)
    · simp only [if_true, List.mem_cons, forall_eq_or_imp, hx]; simp; omega
/-- clock.right of numbers. -/
def clockF (l : List Int) (k : Int) : Nat × Int := if k < 0 ∨ (l.length : Int) < k ∨ (l.length : Int) < 2 * k + 1 then (2, -1) else if farIdx 0 l < 0 then (0, -1) else (2, farIdx 0 l)
theorem clockF_le (l : List Int) (k : Int) : (clockF l k).1 ≤ 11 := by unfold clockF; repeat (first | exact Nat.le_of_ble_eq_true rfl | split)
theorem clockF_zero {l : List Int} {k : Int} (h : (clockF l k).1 = 0) : clockF l k = (0, -1) ∧ 0 ≤ k ∧ 2 * k + 1 ≤ l.length ∧ ∀ x ∈ l, farB x = false := by
  unfold clockF at h ⊢
  split at h
  · simp at h
  · split at h
    · rename_i h1 h2
      rw [if_neg h1, if_pos h2]
      exact ⟨rfl, by omega, by omega, (farIdx_neg l 0 (by omega)).1 h2⟩
    · simp at h

theorem idxFar_any (a : Option Addr) (n cap : Nat) (l : List Int) (w : World) (hn : l.length = n) (hr : RowAt w a (encInts l)) (hc : n ≤ 4611686018427387904) :
    Calls Tryz.prog 162 #[.slice a n cap, .func (.func 276) #[] #[]] w fun e w' => e = .returned (.int .i64 (farIdx 0 l)) ∧ w = w' := by
  go_enter Tryz.func162, Tryz.ntmps162
  go_wp2
  go_loop [8] (fun i => ∃ k : Nat, k ≤ n ∧ i = .int .i64 k ∧ Hid (farIdx k (l.drop k) = farIdx 0 l)) (fun i => n - (intOf i).toNat)
  case atStart => exact ⟨0, Nat.zero_le _, rfl, rfl⟩
  case round =>
    obtain ⟨k, hk, rfl, HK⟩ := hrel
    by_cases hlt : k < n
    · obtain ⟨b, off, rfl, hbl, c0⟩ := hr.int k (by omega)
      have hkt : k < l.length := by omega
      have hd : l.drop k = l[k] :: l.drop (k + 1) := List.drop_eq_getElem_cons hkt
      generalize l[k] = x at *
      cases hx : farB x
      · have HS : Hid (farIdx (k + 1 : Nat) (l.drop (k + 1)) = farIdx 0 l) := by unfold Hid at HK ⊢; rw [← HK, hd, farIdx, hx]; rfl
        have HX := Lib.hid hx
        clear hd hx HK
        go_wp2_with (go_at_call 276; refine (far_any _ _).mono ?_; rintro e w' ⟨rfl, rfl⟩; rw [HX.out])
        go_round
        case rel => exact ⟨k + 1, by omega, by go_num, HS⟩
        case measure => simp [intOf]; omega
      · have HS : Hid (farIdx 0 l = k) := by unfold Hid at HK ⊢; rw [← HK, hd, farIdx, hx]; rfl
        have HX := Lib.hid hx
        clear hd hx HK
        go_wp2_with (go_at_call 276; refine (far_any _ _).mono ?_; rintro e w' ⟨rfl, rfl⟩; rw [HX.out])
        go_ret
        exact ⟨ret_int HS.out.symm, rfl⟩
    · have HS : Hid (farIdx 0 l = -1) := by unfold Hid at HK ⊢; rw [← HK, List.drop_eq_nil_of_le (by omega)]; rfl
      go_wp2
      go_ret
      exact ⟨ret_int HS.out.symm, rfl⟩

set_option maxHeartbeats 400000 in
theorem clockRight_any (ea : Nat → Addr) (a : Option Addr) (n cap : Nat) (l : List Int) (k : Int) (w : World) (hg : Glob w ea [2]) (hn : l.length = n) (hr : RowAt w a (encInts l)) (hc : n ≤ 1000) :
    Calls Tryz.prog 255 #[.slice a n cap, .int .i64 k] w fun e w' => ∃ v, e = .returned v ∧ ErrIs ea w' v (clockF l k).1 (clockF l k).2 ∧ Below w.heap.size w w' := by
  have g2 := hg.cell 2 (by simp)
  simp only [gOf] at g2
  have HN := Lib.hid hn
  by_cases h0 : k < 0 ∨ (n : Int) < k ∨ (n : Int) < 2 * k + 1
  · have HP : Hid (clockF l k = (2, -1)) := by unfold Hid; rw [clockF, if_pos (by rw [hn]; exact h0)]
    clear hn
    by_cases h1 : k < 0
    · clear h0
      go_enter Tryz.func255, Tryz.ntmps255
      go_wp2
      go_ret
      exact ⟨_, rfl, by rw [HP.out]; exact ErrIs.bare ea w 2, Below.refl _ _⟩
    · by_cases h2 : (n : Int) < k
      · clear h0
        go_enter Tryz.func255, Tryz.ntmps255
        go_wp2
        go_ret
        exact ⟨_, rfl, by rw [HP.out]; exact ErrIs.bare ea w 2, Below.refl _ _⟩
      · have h3 : (n : Int) < 2 * k + 1 := by omega
        clear h0
        go_enter Tryz.func255, Tryz.ntmps255
        go_wp2
        go_ret
        exact ⟨_, rfl, by rw [HP.out]; exact ErrIs.bare ea w 2, Below.refl _ _⟩
  · have b0 : 0 ≤ k := by omega
    have b1 : 2 * k + 1 ≤ n := by omega
    have b2 : k ≤ n := by omega
    by_cases h2 : farIdx 0 l < 0
    · have HP : Hid (clockF l k = (0, -1)) := by unfold Hid; rw [clockF, if_neg (by rw [hn]; exact h0), if_pos h2]
      clear h0 hn
      go_enter Tryz.func255, Tryz.ntmps255
      go_wp2_with (go_at_call 162; refine (idxFar_any _ _ _ l _ HN.out hr (by omega)).mono ?_; rintro e w' ⟨rfl, rfl⟩)
      go_ret
      exact ⟨_, rfl, by rw [HP.out]; exact Or.inl ⟨rfl, (errV_zero ea).symm⟩, Below.refl _ _⟩
    · have HP : Hid (clockF l k = (2, farIdx 0 l)) := by unfold Hid; rw [clockF, if_neg (by rw [hn]; exact h0), if_neg h2]
      have h3 : 0 ≤ farIdx 0 l := by omega
      have HE := Lib.hid (errV_pos ea (k := 2) (by decide))
      rw [HE.out] at g2
      have e0 : decide (k < 0) = false := decide_eq_false (by omega)
      have e1 : decide ((n : Int) < k) = false := decide_eq_false (by omega)
      have e2 : decide ((n : Int) < 2 * k + 1) = false := decide_eq_false (by omega)
      clear h0 hn h2
      go_enter Tryz.func255, Tryz.ntmps255
      go_wp2_with (go_at_call 162; refine (idxFar_any _ _ _ l _ HN.out hr (by omega)).mono ?_; rintro e w' ⟨rfl, rfl⟩)
      go_ret
      exact ⟨_, rfl, by rw [HP.out]; exact Or.inr ⟨h3, by simp, w.heap.size, rfl, by simp, by simp, by simp; exact HE.out.symm⟩, (Below.refl _ _).alloc (Nat.le_refl _) _⟩

theorem RowAt.intG {w : World} {a : Option Addr} {l : List Int} (h : RowAt w a (encInts l)) (k : Nat) (hk : k < l.length) :
    ∃ b off, a = some ⟨b, off, none⟩ ∧ b < w.heap.size ∧ w.cell? ⟨b, off + k, none⟩ = some (.int .i64 (l.getD k 0)) := by
  obtain ⟨b, off, e, hb, hc⟩ := h.int k hk
  exact ⟨b, off, e, hb, by rw [hc, List.getD_eq_getElem?_getD, List.getElem?_eq_getElem hk]; rfl⟩
/-- The middle of numbers: half of the sum of the k-th from below and the k-th from above. -/
def midV (l : List Int) (k : Nat) : Int := ((sortL l).getD k 0 + (sortL l).getD (l.length - 1 - k) 0) / 2

set_option maxRecDepth 100000 in
set_option maxHeartbeats 800000 in
theorem mid_ok (ea : Nat → Addr) (a : Option Addr) (n cap : Nat) (l : List Int) (k : Nat) (w : World) (hg : Glob w ea [2]) (hn : l.length = n) (hr : RowAt w a (encInts l)) (hc : n ≤ 1000) (h : (clockF l k).1 = 0) :
    Calls Tryz.prog 226 #[.slice a n cap, .int .i64 k] w fun e w' => e = .returned (.tuple #[.int .i64 (midV l k), .nilIface]) ∧ Below w.heap.size w w' := by
  have C := Lib.hid (clockRight_any ea a n cap l k w hg hn hr hc)
  obtain ⟨hF, _, hk2, hfar⟩ := clockF_zero h
  rw [hF] at C
  have hk : 2 * k + 1 ≤ n := by omega
  have HN := Lib.hid hn
  obtain ⟨b, off, rfl, hbl, hcells⟩ := hr.at (fun e => by have h1 := encInts_length l; rw [e, hn] at h1; simp at h1; omega)
  have hI : ∀ W : World, Below w.heap.size w W → vl_Ints W.heap.size W (.slice (some ⟨b, off, none⟩) n cap) l := fun W hb => Or.inr ⟨b, off, cap, by rw [hn], Nat.lt_of_lt_of_le hbl hb.size, fun j hj => (hb.cell (p := ⟨b, off + j, none⟩) hbl).trans (hcells j _ (by simp [encInts, hj]))⟩
  have HI := Lib.hid hI
  have hfx : ∀ j, j < n → -1000000 ≤ (sortL l).getD j 0 ∧ (sortL l).getD j 0 ≤ 1000000 := fun j hj => by
    have hm : (sortL l).getD j 0 ∈ sortL l := by
      rw [List.getD_eq_getElem?_getD, List.getElem?_eq_getElem (by rw [sortL_length]; omega)]; exact List.getElem_mem _
    have := hfar _ ((List.mergeSort_perm l _).mem_iff.1 hm)
    simp only [farB, decide_eq_false_iff_not] at this; omega
  have b1 := hfx k (by omega)
  have b2 := hfx (n - 1 - k) (by omega)
  have hL := sortL_length l
  have HM : Hid (midV l k = ((sortL l).getD k 0 + (sortL l).getD (n - 1 - k) 0) / 2) := by unfold Hid; rw [midV, hn]
  have HSL : Hid ((sortL l).length = n) := by unfold Hid; rw [hL, hn]
  clear h hF hn hr hcells hI hfx hL hfar hk2
  have KV := Lib.hid (fun (W : World) => callsIn_wide.1 (vl_values_in Fence.wide 3 trivial rfl (some ⟨b, off, none⟩) n cap W))
  go_enter Tryz.func226, Tryz.ntmps226
  go_wp2_with fail
  refine C.out.mono ?_
  rintro e w1 ⟨v, rfl, hE, hb⟩
  obtain rfl := hE.nil
  clear hE
  have hs1 := hb.size
  go_wp2_with (go_at_call 257; refine (KV.out _).mono ?_; rintro e w2 ⟨rfl, rfl⟩)
  have hbv := hb.alloc hb.size (.cells #[.slice (some ⟨b, off, none⟩) n cap] 22)
  refine (sorted_any w1.heap.size (.slice (some ⟨b, off, none⟩) n cap) l _ (by rw [HN.out]; exact hc) (by simp) (by simp) (HI.out _ hbv)).mono ?_
  rintro e w3 ⟨v, rfl, ho, hb3⟩
  rw [HN.out] at ho
  obtain ⟨ao, co, rfl⟩ := owned_shape ho
  obtain ⟨ra, _, na, _⟩ := RowAt.owned ho
  obtain ⟨bx, ox, rfl, hbx, q0⟩ := ra.intG k (by rw [HSL.out]; omega)
  obtain ⟨bx', ox', e', _, q1⟩ := ra.intG (n - 1 - k) (by rw [HSL.out]; omega)
  obtain ⟨rfl, rfl⟩ : bx = bx' ∧ ox = ox' := by injection e' with e'; injection e' with e1 e2; exact ⟨e1, e2⟩
  have hbf := onto' hb (onto' ((Below.refl _ _).alloc (Nat.le_refl _) _) hb3)
  clear ho ra e'
  generalize hA : (sortL l).getD k 0 = A at *
  generalize hB : (sortL l).getD (n - 1 - k) 0 = B at *
  clear hA hB
  have w1' : IntKind.i64.wrap (A + B) = A + B := IntWalk.i64_in _ (by omega)
  have w2' : IntKind.i64.wrap ((n : Int) - 1) = (n : Int) - 1 := IntWalk.i64_in _ (by omega)
  have w3' : IntKind.i64.wrap ((n : Int) - 1 - (k : Int)) = (n : Int) - 1 - (k : Int) := IntWalk.i64_in _ (by omega)
  have w4' : ((n : Int) - 1 - (k : Int)).toNat = n - 1 - k := by omega
  have i0 : (0 : Int) ≤ (k : Int) := by omega
  have i1 : (k : Int) < (n : Int) := by omega
  have i2 : (0 : Int) ≤ (n : Int) - 1 - (k : Int) := by omega
  have i3 : (n : Int) - 1 - (k : Int) < (n : Int) := by omega
  go_wp2
  go_quiet (fail)
  clear w1' w2' w3' w4'
  go_wp2
  go_ret2
  rw [HM.out]
  exact ⟨rfl, below_drewN hbf _⟩
end Go.Proofs.YtoekajpjfoolpaaGreatDoor
namespace Go.Proofs.YtoekajpjfoolpaaGreatDoor

theorem sortL_sorted (l : List Int) : (sortL l).Pairwise (· ≤ ·) := by
  have h := List.pairwise_mergeSort (le := fun x y : Int => decide (x ≤ y)) (by intro a b c; simp; omega) (by intro a b; simp; omega) l
  exact h.imp (fun h => by simpa using h)
theorem sortL_perm (l : List Int) : (sortL l).Perm l := List.mergeSort_perm l _
theorem sorted_le {x : List Int} (h : x.Pairwise (· ≤ ·)) {i j : Nat} (hij : i ≤ j) (hj : j < x.length) : x.getD i 0 ≤ x.getD j 0 := by
  rw [List.getD_eq_getElem?_getD, List.getD_eq_getElem?_getD, List.getElem?_eq_getElem (by omega), List.getElem?_eq_getElem hj]
  simp only [Option.getD_some]
  rcases Nat.lt_or_eq_of_le hij with h1 | rfl
  · exact List.pairwise_iff_getElem.1 h i j (by omega) hj h1
  · exact Int.le_refl _

theorem foldl_max (l : List Int) : ∀ m : Int, m ≤ l.foldl max m ∧ (∀ a ∈ l, a ≤ l.foldl max m) ∧ (l.foldl max m = m ∨ l.foldl max m ∈ l) := by
  induction l with
  | nil => intro m; simp
  | cons x r ih =>
    intro m
    obtain ⟨h1, h2, h3⟩ := ih (max m x)
    simp only [List.foldl_cons, List.mem_cons, forall_eq_or_imp]
    refine ⟨by omega, ⟨by omega, h2⟩, ?_⟩
    rcases h3 with h3 | h3
    · rw [h3]; rcases Int.le_total m x with h | h
      · rw [Int.max_eq_right h]; exact Or.inr (Or.inl rfl)
      · rw [Int.max_eq_left h]; exact Or.inl rfl
    · exact Or.inr (Or.inr h3)
theorem foldl_min (l : List Int) : ∀ m : Int, l.foldl min m ≤ m ∧ (∀ a ∈ l, l.foldl min m ≤ a) ∧ (l.foldl min m = m ∨ l.foldl min m ∈ l) := by
  induction l with
  | nil => intro m; simp
  | cons x r ih =>
    intro m
    obtain ⟨h1, h2, h3⟩ := ih (min m x)
    simp only [List.foldl_cons, List.mem_cons, forall_eq_or_imp]
    refine ⟨by omega, ⟨by omega, h2⟩, ?_⟩
    rcases h3 with h3 | h3
    · rw [h3]; rcases Int.le_total m x with h | h
      · rw [Int.min_eq_left h]; exact Or.inl rfl
      · rw [Int.min_eq_right h]; exact Or.inr (Or.inl rfl)
    · exact Or.inr (Or.inr h3)
theorem maxOf_max {l : List Int} (h : l ≠ []) : Lib.maxOf l ∈ l ∧ ∀ a ∈ l, a ≤ Lib.maxOf l := by
  obtain ⟨h1, h2, h3⟩ := foldl_max l (l.headD 0)
  refine ⟨?_, h2⟩
  rcases h3 with h3 | h3
  · rw [Lib.maxOf, h3]; cases l with
    | nil => exact absurd rfl h
    | cons x r => simp
  · exact h3
theorem minOf_min {l : List Int} (h : l ≠ []) : Lib.minOf l ∈ l ∧ ∀ a ∈ l, Lib.minOf l ≤ a := by
  obtain ⟨h1, h2, h3⟩ := foldl_min l (l.headD 0)
  refine ⟨?_, h2⟩
  rcases h3 with h3 | h3
  · rw [Lib.minOf, h3]; cases l with
    | nil => exact absurd rfl h
    | cons x r => simp
  · exact h3
theorem getD_mem {x : List Int} {k : Nat} (hk : k < x.length) : x.getD k 0 ∈ x := by
  rw [List.getD_eq_getElem?_getD, List.getElem?_eq_getElem hk]; exact List.getElem_mem _
end Go.Proofs.YtoekajpjfoolpaaGreatDoor
namespace Go.Proofs.YtoekajpjfoolpaaGreatDoor
open Go.RowKit

/-- clock.Mid: the number, the error, its place. -/
def midF (l : List Int) (k : Int) : Int × Nat × Int := if (clockF l k).1 = 0 then (midV l k.toNat, 0, -1) else (0, clockF l k)
theorem midF_le (l : List Int) (k : Int) : (midF l k).2.1 ≤ 11 := by
  have := clockF_le l k
  unfold midF; split
  · exact Nat.zero_le _
  · exact this

theorem mid_err (ea : Nat → Addr) (a : Option Addr) (n cap : Nat) (l : List Int) (k : Int) (w : World) (hg : Glob w ea [2]) (hn : l.length = n) (hr : RowAt w a (encInts l)) (hc : n ≤ 1000) (h : (clockF l k).1 ≠ 0) :
    Calls Tryz.prog 226 #[.slice a n cap, .int .i64 k] w fun e w' => ∃ v, e = .returned (.tuple #[.int .i64 0, v]) ∧ ErrIs ea w' v (clockF l k).1 (clockF l k).2 ∧ Below w.heap.size w w' := by
  have C := Lib.hid (clockRight_any ea a n cap l k w hg hn hr hc)
  have H := Lib.hid h
  clear h hn
  go_enter Tryz.func226, Tryz.ntmps226
  go_wp2_with fail
  refine C.out.mono ?_
  rintro e w1 ⟨v, rfl, hE, hb⟩
  obtain ⟨t, x, rfl⟩ := hE.held H.out
  go_wp2
  go_ret2
  exact ⟨_, rfl, hE, hb⟩
theorem mid_any (ea : Nat → Addr) (a : Option Addr) (n cap : Nat) (l : List Int) (k : Int) (w : World) (hg : Glob w ea [2]) (hn : l.length = n) (hr : RowAt w a (encInts l)) (hc : n ≤ 1000) :
    Calls Tryz.prog 226 #[.slice a n cap, .int .i64 k] w fun e w' => ∃ v, e = .returned (.tuple #[.int .i64 (midF l k).1, v]) ∧ ErrIs ea w' v (midF l k).2.1 (midF l k).2.2 ∧ Below w.heap.size w w' := by
  by_cases h : (clockF l k).1 = 0
  · obtain ⟨m, rfl⟩ : ∃ m : Nat, k = m := ⟨k.toNat, by have := (clockF_zero h).2.1; omega⟩
    have hF : midF l m = (midV l m, 0, -1) := by rw [midF, if_pos h, Int.toNat_natCast]
    rw [hF]
    refine (mid_ok ea a n cap l m w hg hn hr hc h).mono ?_
    rintro e w' ⟨rfl, hb⟩
    exact ⟨_, rfl, Or.inl ⟨rfl, (errV_zero ea).symm⟩, hb⟩
  · have hF : midF l k = (0, clockF l k) := by rw [midF, if_neg h]
    rw [hF]
    exact mid_err ea a n cap l k w hg hn hr hc h

/-- Spread of numbers. -/
def spreadF (l : List Int) : Int := if l = [] then 0 else Lib.maxOf l - Lib.minOf l
end Go.Proofs.YtoekajpjfoolpaaGreatDoor
