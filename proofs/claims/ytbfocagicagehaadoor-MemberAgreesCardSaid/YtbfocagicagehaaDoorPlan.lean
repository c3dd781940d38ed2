/- plan: Check, right, Who, Next, Crew, Share. -/
import Derived.Test.YtbfocagicagehaaDoorCrew
namespace Go.Proofs.YtbfocagicagehaaDoor
open Go.RowKit

/-- The first that is no node, from place i on; below 0: none. -/
def badIdx (i : Int) : List Int → Int
  | [] => -1
  | x :: r => if nodeB x then badIdx (i + 1) r else i
/-- plan.Check of a plan. -/
def planF (l : List Int) : Nat × Int := if l.length = 0 then (5, -1) else if 32 < l.length then (7, -1) else if badIdx 0 l < 0 then (0, -1) else (4, badIdx 0 l)

theorem badIdx_neg : ∀ (l : List Int) (i : Int), 0 ≤ i → (badIdx i l < 0 ↔ ∀ x ∈ l, nodeB x = true)
  | [], i, _ => by simp [badIdx]
  | x :: r, i, h => by
    rw [badIdx]
    cases hx : nodeB x
    · simp [hx]; omega
    · simp [hx, badIdx_neg r (i + 1) (by omega)]

theorem planF_ok {l : List Int} (h : (planF l).1 = 0) : planF l = (0, -1) ∧ 0 < l.length ∧ l.length ≤ 32 ∧ ∀ x ∈ l, nodeB x = true := by
  unfold planF at h ⊢
  split at h
  · simp at h
  · split at h
    · simp at h
    · split at h
      · rename_i h1 h2 h3
        rw [if_neg h1, if_neg h2, if_pos h3]
        exact ⟨rfl, by omega, by omega, (badIdx_neg l 0 (by omega)).1 h3⟩
      · simp at h

theorem badPred_any (x : Int) (w : World) : Calls Tryd.prog 28 #[.int .i64 x] w fun e w' => e = .returned (.bool (!nodeB x)) ∧ w = w' := by
  go_enter Tryd.func28, Tryd.ntmps28
  go_wp2_with (go_at_call 29; refine (node_any _ _).mono ?_; rintro e w' ⟨rfl, rfl⟩)
  go_ret
  exact ⟨rfl, rfl⟩

theorem idxFunc_any (a : Option Addr) (n cap : Nat) (l : List Int) (w : World) (hn : l.length = n) (hr : RowAt w a (encInts l)) (hc : n ≤ 4611686018427387904) :
    Calls Tryd.prog 27 #[.slice a n cap, .func (.func 28) #[] #[]] w fun e w' => e = .returned (.int .i64 (badIdx 0 l)) ∧ w = w' := by
  go_enter Tryd.func27, Tryd.ntmps27
  go_wp2
  go_loop [8] (fun i => ∃ k : Nat, k ≤ n ∧ i = .int .i64 k ∧ Hid (badIdx k (l.drop k) = badIdx 0 l)) (fun i => n - (intOf i).toNat)
  case atStart => exact ⟨0, Nat.zero_le _, rfl, rfl⟩
  case round =>
    obtain ⟨k, hk, rfl, HK⟩ := hrel
    by_cases hlt : k < n
    · obtain ⟨b, off, rfl, hbl, c0⟩ := hr.int k (by omega)
      have hkt : k < l.length := by omega
      have hd : l.drop k = l[k] :: l.drop (k + 1) := List.drop_eq_getElem_cons hkt
      generalize l[k] = x at *
      cases hx : nodeB x
      · have HS : Hid (badIdx 0 l = k) := by unfold Hid at HK ⊢; rw [← HK, hd, badIdx, hx]; rfl
        have HX := Lib.hid hx
        clear hd hx HK
        go_wp2_with (go_at_call 28; refine (badPred_any _ _).mono ?_; rintro e w' ⟨rfl, rfl⟩; rw [HX.out])
        go_ret
        exact ⟨ret_int HS.out.symm, rfl⟩
      · have HS : Hid (badIdx (k + 1 : Nat) (l.drop (k + 1)) = badIdx 0 l) := by unfold Hid at HK ⊢; rw [← HK, hd, badIdx, hx]; rfl
        have HX := Lib.hid hx
        clear hd hx HK
        go_wp2_with (go_at_call 28; refine (badPred_any _ _).mono ?_; rintro e w' ⟨rfl, rfl⟩; rw [HX.out])
        go_round
        case rel => exact ⟨k + 1, by omega, by go_num, HS⟩
        case measure => simp [intOf]; omega
    · have HS : Hid (badIdx 0 l = -1) := by unfold Hid at HK ⊢; rw [← HK, List.drop_eq_nil_of_le (by omega)]; rfl
      go_wp2
      go_ret
      exact ⟨ret_int HS.out.symm, rfl⟩

theorem planCheck_any (ea : Nat → Addr) (a : Option Addr) (n cap : Nat) (l : List Int) (w : World) (hg : Glob w ea [5, 7, 4]) (hn : l.length = n) (hr : RowAt w a (encInts l)) (hc : n ≤ 4611686018427387904) :
    Calls Tryd.prog 15 #[.slice a n cap] w fun e w' => ∃ v, e = .returned v ∧ ErrIs ea w' v (planF l).1 (planF l).2 ∧ Below w.heap.size w w' := by
  have g5 := hg.cell 5 (by simp)
  have g7 := hg.cell 7 (by simp)
  have g4 := hg.cell 4 (by simp)
  simp only [gOf] at g5 g7 g4
  by_cases h0 : n = 0
  · have HP : Hid (planF l = (5, -1)) := by unfold Hid; rw [planF, if_pos (by omega)]
    subst h0
    go_enter Tryd.func15, Tryd.ntmps15
    go_wp2
    go_ret
    exact ⟨_, rfl, by rw [HP.out]; exact ErrIs.bare ea w 5, Below.refl _ _⟩
  · have hz : ((n : Int) == 0) = false := by simp; omega
    by_cases h1 : 32 < n
    · have HP : Hid (planF l = (7, -1)) := by unfold Hid; rw [planF, if_neg (by omega), if_pos (by omega)]
      clear h0
      go_enter Tryd.func15, Tryd.ntmps15
      go_wp2
      go_ret
      exact ⟨_, rfl, by rw [HP.out]; exact ErrIs.bare ea w 7, Below.refl _ _⟩
    · have HN := Lib.hid hn
      by_cases h2 : badIdx 0 l < 0
      · have HP : Hid (planF l = (0, -1)) := by unfold Hid; rw [planF, if_neg (by omega), if_neg (by omega), if_pos h2]
        clear h0 hn
        go_enter Tryd.func15, Tryd.ntmps15
        go_wp2_with (go_at_call 27; refine (idxFunc_any _ _ _ l _ HN.out hr hc).mono ?_; rintro e w' ⟨rfl, rfl⟩)
        go_ret
        exact ⟨_, rfl, by rw [HP.out]; exact Or.inl ⟨rfl, (errV_zero ea).symm⟩, Below.refl _ _⟩
      · have HP : Hid (planF l = (4, badIdx 0 l)) := by unfold Hid; rw [planF, if_neg (by omega), if_neg (by omega), if_neg h2]
        have h3 : 0 ≤ badIdx 0 l := by omega
        have HE := Lib.hid (errV_pos ea (k := 4) (by decide))
        rw [HE.out] at g4
        clear h0 hn h2
        go_enter Tryd.func15, Tryd.ntmps15
        go_wp2_with (go_at_call 27; refine (idxFunc_any _ _ _ l _ HN.out hr hc).mono ?_; rintro e w' ⟨rfl, rfl⟩)
        go_ret
        exact ⟨_, rfl, by rw [HP.out]; exact Or.inr ⟨h3, by simp, w.heap.size, rfl, by simp, by simp, by simp; exact HE.out.symm⟩, (Below.refl _ _).alloc (Nat.le_refl _) _⟩

/-- plan.right: a plan, and a slot. -/
def rightF (l : List Int) (s : Int) : Nat × Int := if (planF l).1 = 0 then (if 0 ≤ s ∧ s ≤ 1000000 then (0, -1) else (2, -1)) else planF l

theorem right_any (ea : Nat → Addr) (a : Option Addr) (n cap : Nat) (l : List Int) (s : Int) (w : World) (hg : Glob w ea [5, 7, 4, 2]) (hn : l.length = n) (hr : RowAt w a (encInts l)) (hc : n ≤ 4611686018427387904) :
    Calls Tryd.prog 31 #[.slice a n cap, .int .i64 s] w fun e w' => ∃ v, e = .returned v ∧ ErrIs ea w' v (rightF l s).1 (rightF l s).2 ∧ Below w.heap.size w w' := by
  have hgp : Glob w ea [5, 7, 4] := hg.sub (by simp)
  have HN := Lib.hid hn
  clear hn
  by_cases h0 : (planF l).1 = 0
  · have hF := planF_ok h0
    have H0 := Lib.hid h0
    clear h0
    by_cases hs : 0 ≤ s ∧ s ≤ 1000000
    · have HP : Hid (rightF l s = (0, -1)) := by unfold Hid; rw [rightF, if_pos H0.out, if_pos hs]
      obtain ⟨hs0, hs1⟩ := hs
      clear hF
      go_enter Tryd.func31, Tryd.ntmps31
      go_wp2_with (go_at_call 15; refine (planCheck_any ea _ _ _ l _ hgp HN.out hr hc).mono ?_; rintro e w1 ⟨v, rfl, hE, hb⟩; rw [H0.out] at hE; obtain rfl := hE.nil)
      go_ret
      exact ⟨_, rfl, by rw [HP.out]; exact Or.inl ⟨rfl, (errV_zero ea).symm⟩, hb⟩
    · have HP : Hid (rightF l s = (2, -1)) := by unfold Hid; rw [rightF, if_pos H0.out, if_neg hs]
      clear hF
      by_cases hs0 : s < 0
      all_goals
        have hs2 : s < 0 ∨ 1000000 < s := by omega
        clear hs
        go_enter Tryd.func31, Tryd.ntmps31
        go_wp2_with (go_at_call 15; refine (planCheck_any ea _ _ _ l _ hgp HN.out hr hc).mono ?_; rintro e w1 ⟨v, rfl, hE, hb⟩; rw [H0.out] at hE; obtain rfl := hE.nil; have g2 := (hg.below hb).cell 2 (by simp); simp only [gOf] at g2)
        go_ret
        exact ⟨_, rfl, by rw [HP.out]; exact ErrIs.bare ea _ 2, hb⟩
  · have HP : Hid (rightF l s = planF l) := by unfold Hid; rw [rightF, if_neg h0]
    have H0 := Lib.hid h0
    clear h0
    go_enter Tryd.func31, Tryd.ntmps31
    go_wp2_with (go_at_call 15; refine (planCheck_any ea _ _ _ l _ hgp HN.out hr hc).mono ?_; rintro e w1 ⟨v, rfl, hE, hb⟩; obtain ⟨t, x, rfl⟩ := hE.held H0.out)
    go_ret
    exact ⟨_, rfl, by rw [HP.out]; exact hE, hb⟩
end Go.Proofs.YtbfocagicagehaaDoor
