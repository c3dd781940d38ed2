/- clock: far, right, Mid, Set, Spread. -/
import Derived.Test.YtlpgafpmhihneaaDoorSorted
import Derived.Test.YtlpgafpmhihneaaDoorLib
import Derived.Test.YtlpgafpmhihneaaDoorAppend
import Derived.BigQuiet
import Derived.Deep.QuietTactic
namespace Go.Proofs.YtlpgafpmhihneaaDoor
open Go.RowKit Go.Shelf

theorem onto' {w W w' : World} (h : Below w.heap.size w W) (h2 : Below W.heap.size W w') : Below w.heap.size w w' := h.trans (h2.mono h.size)

def farB (n : Int) : Bool := decide (n < -1000000 ∨ 1000000 < n)
theorem far_any (n : Int) (w : World) : Calls Tryd.prog 47 #[.int .i64 n] w fun e w' => e = .returned (.bool (farB n)) ∧ w = w' := by
  by_cases h : n < -1000000
  · have HF := Lib.hid (show farB n = true by simp [farB]; omega)
    go_enter Tryd.func47, Tryd.ntmps47
    go_wp2
    go_ret
    exact ⟨ret_bool HF.out.symm, rfl⟩
  · have hd : decide (n < -1000000) = false := by simpa using h
    by_cases h2 : 1000000 < n
    · have HF := Lib.hid (show farB n = true by simp [farB]; omega)
      go_enter Tryd.func47, Tryd.ntmps47
      go_wp2
      go_ret
      exact ⟨ret_bool HF.out.symm, rfl⟩
    · have HF := Lib.hid (show farB n = false by simp [farB]; omega)
      go_enter Tryd.func47, Tryd.ntmps47
      go_wp2
      go_ret
      exact ⟨ret_bool HF.out.symm, rfl⟩

/-- The first that is too far, from place i on; below 0: none. -/
def farIdx (i : Int) : List Int → Int
  | [] => -1
  | x :: r => if farB x then i else farIdx (i + 1) r
theorem farIdx_neg : ∀ (l : List Int) (i : Int), 0 ≤ i → (farIdx i l < 0 ↔ ∀ x ∈ l, farB x = false)
  | [], i, _ => by simp [farIdx]
  | x :: r, i, h => by
    rw [farIdx]
    cases hx : farB x
    · simp only [Bool.false_eq_true, if_false, List.mem_cons, forall_eq_or_imp, hx, true_and]; exact farIdx_neg r (i + 1) (by omega)
    · simp only [if_true, List.mem_cons, forall_eq_or_imp, hx]; simp; omega
/-- clock.right of numbers. -/
def clockF (l : List Int) (k : Int) : Nat × Int := if k < 0 ∨ (l.length : Int) < k ∨ (l.length : Int) < 2 * k + 1 then (2, -1) else if farIdx 0 l < 0 then (0, -1) else (2, farIdx 0 l)
theorem clockF_le (l : List Int) (k : Int) : (clockF l k).1 ≤ 11 := by unfold clockF; repeat (first | exact Nat.le_of_ble_eq_true rfl | split)
theorem clockF_zero {l : List Int} {k : Int} (h : (clockF l k).1 = 0) : clockF l k = (0, -1) ∧ 0 ≤ k ∧ 2 * k + 1 ≤ l.length ∧ ∀ x ∈ l, farB x = false := by
  unfold clockF at h ⊢
  split at h
  · simp at h
  · split at h
    · rename_i h1 h2
      rw [if_neg h1, if_pos h2]
      exact ⟨rfl, by omega, by omega, (farIdx_neg l 0 (by omega)).1 h2⟩
    · simp at h

theorem idxFar_any (a : Option Addr) (n cap : Nat) (l : List Int) (w : World) (hn : l.length = n) (hr : RowAt w a (encInts l)) (hc : n ≤ 4611686018427387904) :
    Calls Tryd.prog 68 #[.slice a n cap, .func (.func 47) #[] #[]] w fun e w' => e = .returned (.int .i64 (farIdx 0 l)) ∧ w = w' := by
  go_enter Tryd.func68, Tryd.ntmps68
  go_wp2
  go_loop [8] (fun i => ∃ k : Nat, k ≤ n ∧ i = .int .i64 k ∧ Hid (farIdx k (l.drop k) = farIdx 0 l)) (fun i => n - (intOf i).toNat)
  case atStart => exact ⟨0, Nat.zero_le _, rfl, rfl⟩
  case round =>
    obtain ⟨k, hk, rfl, HK⟩ := hrel
    by_cases hlt : k < n
    · obtain ⟨b, off, rfl, hbl, c0⟩ := hr.int k (by omega)
      have hkt : k < l.length := by omega
      have hd : l.drop k = l[k] :: l.drop (k + 1) := List.drop_eq_getElem_cons hkt
      generalize l[k] = x at *
      cases hx : farB x
      · have HS : Hid (farIdx (k + 1 : Nat) (l.drop (k + 1)) = farIdx 0 l) := by unfold Hid at HK ⊢; rw [← HK, hd, farIdx, hx]; rfl
        have HX := Lib.hid hx
        clear hd hx HK
        go_wp2_with (go_at_call 47; refine (far_any _ _).mono ?_; rintro e w' ⟨rfl, rfl⟩; rw [HX.out])
        go_round
        case rel => exact ⟨k + 1, by omega, by go_num, HS⟩
        case measure => simp [intOf]; omega
      · have HS : Hid (farIdx 0 l = k) := by unfold Hid at HK ⊢; rw [← HK, hd, farIdx, hx]; rfl
        have HX := Lib.hid hx
        clear hd hx HK
        go_wp2_with (go_at_call 47; refine (far_any _ _).mono ?_; rintro e w' ⟨rfl, rfl⟩; rw [HX.out])
        go_ret
        exact ⟨ret_int HS.out.symm, rfl⟩
    · have HS : Hid (farIdx 0 l = -1) := by unfold Hid at HK ⊢; rw [← HK, List.drop_eq_nil_of_le (by omega)]; rfl
      go_wp2
      go_ret
      exact ⟨ret_int HS.out.symm, rfl⟩

set_option maxHeartbeats 400000 in
theorem clockRight_any (ea : Nat → Addr) (a : Option Addr) (n cap : Nat) (l : List Int) (k : Int) (w : World) (hg : Glob w ea [2]) (hn : l.length = n) (hr : RowAt w a (encInts l)) (hc : n ≤ 1000) :
    Calls Tryd.prog 38 #[.slice a n cap, .int .i64 k] w fun e w' => ∃ v, e = .returned v ∧ ErrIs ea w' v (clockF l k).1 (clockF l k).2 ∧ Below w.heap.size w w' := by
  have g2 := hg.cell 2 (by simp)
  simp only [gOf] at g2
  have HN := Lib.hid hn
  by_cases h0 : k < 0 ∨ (n : Int) < k ∨ (n : Int) < 2 * k + 1
  · have HP : Hid (clockF l k = (2, -1)) := by unfold Hid; rw [clockF, if_pos (by rw [hn]; exact h0)]
    clear hn
    by_cases h1 : k < 0
    · clear h0
      go_enter Tryd.func38, Tryd.ntmps38
      go_wp2
      go_ret
      exact ⟨_, rfl, by rw [HP.out]; exact ErrIs.bare ea w 2, Below.refl _ _⟩
    · by_cases h2 : (n : Int) < k
      · clear h0
        go_enter Tryd.func38, Tryd.ntmps38
        go_wp2
        go_ret
        exact ⟨_, rfl, by rw [HP.out]; exact ErrIs.bare ea w 2, Below.refl _ _⟩
      · have h3 : (n : Int) < 2 * k + 1 := by omega
        clear h0
        go_enter Tryd.func38, Tryd.ntmps38
        go_wp2
        go_ret
        exact ⟨_, rfl, by rw [HP.out]; exact ErrIs.bare ea w 2, Below.refl _ _⟩
  · have b0 : 0 ≤ k := by omega
    have b1 : 2 * k + 1 ≤ n := by omega
    have b2 : k ≤ n := by omega
    by_cases h2 : farIdx 0 l < 0
    · have HP : Hid (clockF l k = (0, -1)) := by unfold Hid; rw [clockF, if_neg (by rw [hn]; exact h0), if_pos h2]
      clear h0 hn
      go_enter Tryd.func38, Tryd.ntmps38
      go_wp2_with (go_at_call 68; refine (idxFar_any _ _ _ l _ HN.out hr (by omega)).mono ?_; rintro e w' ⟨rfl, rfl⟩)
      go_ret
      exact ⟨_, rfl, by rw [HP.out]; exact Or.inl ⟨rfl, (errV_zero ea).symm⟩, Below.refl _ _⟩
    · have HP : Hid (clockF l k = (2, farIdx 0 l)) := by unfold Hid; rw [clockF, if_neg (by rw [hn]; exact h0), if_neg h2]
      have h3 : 0 ≤ farIdx 0 l := by omega
      have HE := Lib.hid (errV_pos ea (k := 2) (by decide))
      rw [HE.out] at g2
      clear h0 hn h2
      go_enter Tryd.func38, Tryd.ntmps38
      go_wp2_with (go_at_call 68; refine (idxFar_any _ _ _ l _ HN.out hr (by omega)).mono ?_; rintro e w' ⟨rfl, rfl⟩)
      go_ret
      exact ⟨_, rfl, by rw [HP.out]; exact Or.inr ⟨h3, by simp, w.heap.size, rfl, by simp, by simp, by simp; exact HE.out.symm⟩, (Below.refl _ _).alloc (Nat.le_refl _) _⟩

theorem RowAt.intG {w : World} {a : Option Addr} {l : List Int} (h : RowAt w a (encInts l)) (k : Nat) (hk : k < l.length) :
    ∃ b off, a = some ⟨b, off, none⟩ ∧ b < w.heap.size ∧ w.cell? ⟨b, off + k, none⟩ = some (.int .i64 (l.getD k 0)) := by
  obtain ⟨b, off, e, hb, hc⟩ := h.int k hk
  exact ⟨b, off, e, hb, by rw [hc, List.getD_eq_getElem?_getD, List.getElem?_eq_getElem hk]; rfl⟩
/-- The middle of numbers: half of the sum of the k-th from below and the k-th from above. -/
def midV (l : List Int) (k : Nat) : Int := ((sortL l).getD k 0 + (sortL l).getD (l.length - 1 - k) 0) / 2

set_option maxRecDepth 100000 in
set_option maxHeartbeats 800000 in
theorem mid_ok (ea : Nat → Addr) (a : Option Addr) (n cap : Nat) (l : List Int) (k : Nat) (w : World) (hg : Glob w ea [2]) (hn : l.length = n) (hr : RowAt w a (encInts l)) (hc : n ≤ 1000) (h : (clockF l k).1 = 0) :
    Calls Tryd.prog 10 #[.slice a n cap, .int .i64 k] w fun e w' => e = .returned (.tuple #[.int .i64 (midV l k), .nilIface]) ∧ Below w.heap.size w w' := by
  have C := Lib.hid (clockRight_any ea a n cap l k w hg hn hr hc)
  obtain ⟨hF, _, hk2, hfar⟩ := clockF_zero h
  rw [hF] at C
  have hk : 2 * k + 1 ≤ n := by omega
  have HN := Lib.hid hn
  obtain ⟨b, off, rfl, hbl, hcells⟩ := hr.at (fun e => by have h1 := encInts_length l; rw [e, hn] at h1; simp at h1; omega)
  have hI : ∀ W : World, Below w.heap.size w W → vl_Ints W.heap.size W (.slice (some ⟨b, off, none⟩) n cap) l := fun W hb => Or.inr ⟨b, off, cap, by rw [hn], Nat.lt_of_lt_of_le hbl hb.size, fun j hj => (hb.cell (p := ⟨b, off + j, none⟩) hbl).trans (hcells j _ (by simp [encInts, hj]))⟩
  have HI := Lib.hid hI
  have hfx : ∀ j, j < n → -1000000 ≤ (sortL l).getD j 0 ∧ (sortL l).getD j 0 ≤ 1000000 := fun j hj => by
    have hm : (sortL l).getD j 0 ∈ sortL l := by
      rw [List.getD_eq_getElem?_getD, List.getElem?_eq_getElem (by rw [sortL_length]; omega)]; exact List.getElem_mem _
    have := hfar _ ((List.mergeSort_perm l _).mem_iff.1 hm)
    simp only [farB, decide_eq_false_iff_not] at this; omega
  have b1 := hfx k (by omega)
  have b2 := hfx (n - 1 - k) (by omega)
  have hL := sortL_length l
  have HM : Hid (midV l k = ((sortL l).getD k 0 + (sortL l).getD (n - 1 - k) 0) / 2) := by unfold Hid; rw [midV, hn]
  have HSL : Hid ((sortL l).length = n) := by unfold Hid; rw [hL, hn]
  clear h hF hn hr hcells hI hfx hL hfar hk2
  have KV := Lib.hid (fun (W : World) => callsIn_wide.1 (vl_values_in Fence.wide 3 trivial rfl (some ⟨b, off, none⟩) n cap W))
  go_enter Tryd.func10, Tryd.ntmps10
  go_wp2_with fail
  refine C.out.mono ?_
  rintro e w1 ⟨v, rfl, hE, hb⟩
  obtain rfl := hE.nil
  clear hE
  have hs1 := hb.size
  go_wp2_with (go_at_call 40; refine (KV.out _).mono ?_; rintro e w2 ⟨rfl, rfl⟩)
  have hbv := hb.alloc hb.size (.cells #[.slice (some ⟨b, off, none⟩) n cap] 22)
  refine (sorted_any w1.heap.size (.slice (some ⟨b, off, none⟩) n cap) l _ (by rw [HN.out]; exact hc) (by simp) (by simp) (HI.out _ hbv)).mono ?_
  rintro e w3 ⟨v, rfl, ho, hb3⟩
  rw [HN.out] at ho
  obtain ⟨ao, co, rfl⟩ := owned_shape ho
  obtain ⟨ra, _, na, _⟩ := RowAt.owned ho
  obtain ⟨bx, ox, rfl, hbx, q0⟩ := ra.intG k (by rw [HSL.out]; omega)
  obtain ⟨bx', ox', e', _, q1⟩ := ra.intG (n - 1 - k) (by rw [HSL.out]; omega)
  obtain ⟨rfl, rfl⟩ : bx = bx' ∧ ox = ox' := by injection e' with e'; injection e' with e1 e2; exact ⟨e1, e2⟩
  have hbf := onto' hb (onto' ((Below.refl _ _).alloc (Nat.le_refl _) _) hb3)
  clear ho ra e'
  generalize hA : (sortL l).getD k 0 = A at *
  generalize hB : (sortL l).getD (n - 1 - k) 0 = B at *
  clear hA hB
  have w1' : IntKind.i64.wrap (A + B) = A + B := IntWalk.i64_in _ (by omega)
  have w2' : IntKind.i64.wrap ((n : Int) - 1) = (n : Int) - 1 := IntWalk.i64_in _ (by omega)
  have w3' : IntKind.i64.wrap ((n : Int) - 1 - (k : Int)) = (n : Int) - 1 - (k : Int) := IntWalk.i64_in _ (by omega)
  have w4' : ((n : Int) - 1 - (k : Int)).toNat = n - 1 - k := by omega
  have i0 : (0 : Int) ≤ (k : Int) := by omega
  have i1 : (k : Int) < (n : Int) := by omega
  have i2 : (0 : Int) ≤ (n : Int) - 1 - (k : Int) := by omega
  have i3 : (n : Int) - 1 - (k : Int) < (n : Int) := by omega
  go_wp2
  go_quiet (fail)
  clear w1' w2' w3' w4'
  go_wp2
  go_ret2
  rw [HM.out]
  exact ⟨rfl, below_drewN hbf _⟩
end Go.Proofs.YtlpgafpmhihneaaDoor
