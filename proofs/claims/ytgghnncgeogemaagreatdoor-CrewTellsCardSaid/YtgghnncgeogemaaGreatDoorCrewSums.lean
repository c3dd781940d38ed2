/- the reference's BothOf, LessOf, EitherOf; crew.Of, whatever the nodes. -/
import Derived.Test.YtgghnncgeogemaaGreatDoorRefSift
import Derived.Test.YtgghnncgeogemaaGreatDoorRefPlan
import Derived.Test.YtgghnncgeogemaaGreatDoorCoded
namespace Go.Proofs.YtgghnncgeogemaaGreatDoor
open Go.RowKit

theorem bothOf_any (a b : Int) (w : World) :
    Calls Tryz.prog 18 #[.int .i64 a, .int .i64 b] w fun e w' => e = .returned (.tuple #[.int .i64 (bothF a b), .int .i64 (twoE a b)]) ∧ w = w' := by
  have KT := Lib.hid (fun W : World => twoError_any a b W)
  cases h : crewB a && crewB b
  · have h1 : twoE a b = 2 := by rw [twoE, h]; rfl
    have h2 : bothF a b = 0 := by rw [bothF, h]; rfl
    rw [h1] at KT
    rw [h1, h2]
    clear h h1 h2
    go_enter Tryz.func18, Tryz.ntmps18
    go_wp2_with fail
    refine (KT.out _).mono ?_
    rintro e w1 ⟨rfl, rfl⟩
    go_wp2
    go_ret2
    exact ⟨rfl, rfl⟩
  · have h' := h
    simp only [Bool.and_eq_true] at h'
    obtain ⟨x, rfl, hx⟩ := crew_nat h'.1
    obtain ⟨y, rfl, hy⟩ := crew_nat h'.2
    have h1 : twoE x y = 0 := by rw [twoE, h]; rfl
    have h2 : bothF x y = x &&& y := by rw [bothF, h, if_pos rfl, Int.toNat_natCast, Int.toNat_natCast]
    have KS := Lib.hid (fun W : World => sift_any x y true W)
    rw [sift_true hx hy] at KS
    rw [h1] at KT
    rw [h1, h2]
    have e0 : ((0 : Nat) : Int) = 0 := rfl
    rw [e0] at KT
    clear h h' h1 h2
    go_enter Tryz.func18, Tryz.ntmps18
    go_wp2_with fail
    refine (KT.out _).mono ?_
    rintro e w1 ⟨rfl, rfl⟩
    go_wp2_with fail
    refine (KS.out _).mono ?_
    rintro e w1 ⟨rfl, rfl⟩
    go_wp2
    go_ret2
    exact ⟨rfl, rfl⟩

theorem lessOf_any (a b : Int) (w : World) :
    Calls Tryz.prog 22 #[.int .i64 a, .int .i64 b] w fun e w' => e = .returned (.tuple #[.int .i64 (lessF a b), .int .i64 (twoE a b)]) ∧ w = w' := by
  have KT := Lib.hid (fun W : World => twoError_any a b W)
  cases h : crewB a && crewB b
  · have h1 : twoE a b = 2 := by rw [twoE, h]; rfl
    have h2 : lessF a b = 0 := by rw [lessF, h]; rfl
    rw [h1] at KT
    rw [h1, h2]
    clear h h1 h2
    go_enter Tryz.func22, Tryz.ntmps22
    go_wp2_with fail
    refine (KT.out _).mono ?_
    rintro e w1 ⟨rfl, rfl⟩
    go_wp2
    go_ret2
    exact ⟨rfl, rfl⟩
  · have h' := h
    simp only [Bool.and_eq_true] at h'
    obtain ⟨x, rfl, hx⟩ := crew_nat h'.1
    obtain ⟨y, rfl, hy⟩ := crew_nat h'.2
    have h1 : twoE x y = 0 := by rw [twoE, h]; rfl
    have h2 : lessF x y = lessN x y := by rw [lessF, h, if_pos rfl, Int.toNat_natCast, Int.toNat_natCast]
    have KS := Lib.hid (fun W : World => sift_any x y false W)
    rw [sift_false hx hy] at KS
    rw [h1] at KT
    rw [h1, h2]
    have e0 : ((0 : Nat) : Int) = 0 := rfl
    rw [e0] at KT
    clear h h' h1 h2
    go_enter Tryz.func22, Tryz.ntmps22
    go_wp2_with fail
    refine (KT.out _).mono ?_
    rintro e w1 ⟨rfl, rfl⟩
    go_wp2_with fail
    refine (KS.out _).mono ?_
    rintro e w1 ⟨rfl, rfl⟩
    go_wp2
    go_ret2
    exact ⟨rfl, rfl⟩

theorem eitherOf_any (a b : Int) (w : World) :
    Calls Tryz.prog 20 #[.int .i64 a, .int .i64 b] w fun e w' => e = .returned (.tuple #[.int .i64 (eitherF a b), .int .i64 (twoE a b)]) ∧ w = w' := by
  have KT := Lib.hid (fun W : World => twoError_any a b W)
  cases h : crewB a && crewB b
  · have h1 : twoE a b = 2 := by rw [twoE, h]; rfl
    have h2 : eitherF a b = 0 := by rw [eitherF, h]; rfl
    rw [h1] at KT
    rw [h1, h2]
    clear h h1 h2
    go_enter Tryz.func20, Tryz.ntmps20
    go_wp2_with fail
    refine (KT.out _).mono ?_
    rintro e w1 ⟨rfl, rfl⟩
    go_wp2
    go_ret2
    exact ⟨rfl, rfl⟩
  · have h' := h
    simp only [Bool.and_eq_true] at h'
    obtain ⟨x, rfl, hx⟩ := crew_nat h'.1
    obtain ⟨y, rfl, hy⟩ := crew_nat h'.2
    have h1 : twoE x y = 0 := by rw [twoE, h]; rfl
    have h2 : eitherF x y = x ||| y := by rw [eitherF, h, if_pos rfl, Int.toNat_natCast, Int.toNat_natCast]
    have KS := Lib.hid (fun W : World => sift_any x y false W)
    rw [sift_false hx hy] at KS
    rw [h1] at KT
    rw [h1, h2]
    have e0 : ((0 : Nat) : Int) = 0 := rfl
    rw [e0] at KT
    have HA : Hid ((y : Int) + (lessN x y : Nat) = ((x ||| y : Nat) : Int)) := by unfold Hid; rw [← less_add hx hy]; push_cast; rfl
    have hl : lessN x y < 65536 := by have := Nat.xor_lt_two_pow (n := 16) (x := x) (y := x &&& y) (by omega) (Nat.and_lt_two_pow _ (by omega)); simpa [lessN] using this
    generalize lessN x y = z at *
    clear h h' h1 h2
    go_enter Tryz.func20, Tryz.ntmps20
    go_wp2_with fail
    refine (KT.out _).mono ?_
    rintro e w1 ⟨rfl, rfl⟩
    go_wp2_with fail
    refine (KS.out _).mono ?_
    rintro e w1 ⟨rfl, rfl⟩
    go_wp2
    go_ret2
    exact ⟨by rw [HA.out]; rfl, rfl⟩

set_option maxRecDepth 100000 in
set_option maxHeartbeats 800000 in
theorem of_any (ea : Nat → Addr) (a : Option Addr) (n cap : Nat) (l : List Int) (w : World) (hg : Glob w ea [4]) (hn : l.length = n) (hr : RowAt w a (encInts l)) (hc : n ≤ 4611686018427387904) :
    Calls Tryz.prog 25 #[.slice a n cap] w fun e w' => ∃ v, e = .returned (.tuple #[.int .i64 (crewF l).1, v]) ∧ ErrIs ea w' v (crewF l).2.1 (crewF l).2.2 ∧ Below w.heap.size w w' := by
  by_cases h : badIdx 0 l < 0
  · have hF : crewF l = ((crewOf l : Int), 0, -1) := by rw [crewF, if_pos h]
    rw [hF]
    refine (of_ok a n cap l w hn hr hc ((badIdx_neg l 0 (by omega)).1 h)).mono ?_
    rintro e w' ⟨rfl, rfl⟩
    exact ⟨_, rfl, Or.inl ⟨rfl, (errV_zero ea).symm⟩, Below.refl _ _⟩
  · have hF : crewF l = (0, 4, badIdx 0 l) := by rw [crewF, if_neg h]
    rw [hF]
    have H0 := Lib.hid h
    have g4 := hg.cell 4 (by simp)
    simp only [gOf] at g4
    have HE := Lib.hid (errV_pos ea (k := 4) (by decide))
    rw [HE.out] at g4
    clear h hF hg
    go_enter Tryz.func25, Tryz.ntmps25
    go_wp2
    go_loop [4, 9] (fun c i => ∃ k : Nat, k ≤ n ∧ i = .int .i64 k ∧ Hid (badIdx k (l.drop k) = badIdx 0 l) ∧ Hid (∀ x ∈ l.take k, nodeB x = true) ∧ c = .int .i64 (crewOf (l.take k))) (fun _ i => n - (intOf i).toNat)
    case atStart => exact ⟨0, Nat.zero_le _, rfl, rfl, by unfold Hid; simp, rfl⟩
    case round =>
      obtain ⟨k, hk, rfl, HK, HA, rfl⟩ := hrel
      by_cases hlt : k < n
      · have hkt : k < l.length := by omega
        obtain ⟨b, off, rfl, hbl, c0⟩ := hr.int k hkt
        have hd : l.drop k = l[k] :: l.drop (k + 1) := List.drop_eq_getElem_cons hkt
        have ht : l.take (k + 1) = l.take k ++ [l[k]] := List.take_succ_eq_append_getElem hkt
        have hs : crewOf (l.take (k + 1)) = crewOf (l.take k) ||| bitOf l[k] := by rw [ht, crewOf, List.foldl_append]; rfl
        have hlt1 : crewOf (l.take k) < 65536 := crewOf_lt HA.out
        generalize l[k] = x at *
        cases hx : nodeB x
        · have HS : Hid (badIdx 0 l = k) := by unfold Hid at HK ⊢; rw [← HK, hd, badIdx, hx]; rfl
          have HX := Lib.hid hx
          clear hd ht hs hx HK HA
          generalize crewOf (l.take k) = C at *
          go_wp2_with (go_at_call 45; refine (node_any _ _).mono ?_; rintro e w' ⟨rfl, rfl⟩; rw [HX.out])
          go_region
          all_goals
            go_wp2
            go_ret2
            exact ⟨_, rfl, by rw [HS.out]; exact Or.inr ⟨by omega, by simp, w.heap.size, rfl, by simp, by simp, by simp; exact HE.out.symm⟩, ((Below.refl _ _).alloc (Nat.le_refl _) _).drew⟩
        · have HS : Hid (badIdx (k + 1 : Nat) (l.drop (k + 1)) = badIdx 0 l) := by unfold Hid at HK ⊢; rw [← HK, hd, badIdx, hx]; rfl
          have HB : Hid (∀ y ∈ l.take (k + 1), nodeB y = true) := by
            unfold Hid; intro y hy; rw [ht] at hy
            rcases List.mem_append.1 hy with h | h
            · exact HA.out y h
            · rw [List.mem_singleton.1 h]; exact hx
          have hlt2 := bitOf_lt hx
          have hO : bits .or .i64 (crewOf (l.take k) : Int) (bitOf x : Int) = ((crewOf (l.take k) ||| bitOf x : Nat) : Int) := or_nat _ _ (by omega) (by omega)
          have HX := Lib.hid hx
          have HC := Lib.hid hs
          clear hd ht hs hx HK HA
          go_wp2_with (first
            | (go_at_call 45; refine (node_any _ _).mono ?_; rintro e w' ⟨rfl, rfl⟩; rw [HX.out])
            | (go_at_call 46; refine (bit_any _ _ HX.out).mono ?_; rintro e w' ⟨rfl, rfl⟩))
          go_round
          case rel => exact ⟨k + 1, by omega, by go_num, HS, HB, by rw [HC.out]⟩
          case measure => simp [intOf]; omega
      · exfalso
        have := HK.out
        rw [List.drop_eq_nil_of_le (by omega)] at this
        have h2 := H0.out
        rw [← this] at h2
        simp [badIdx] at h2
end Go.Proofs.YtgghnncgeogemaaGreatDoor
