/- clock.Mid in one contract; Spread of numbers that are not too far; the closed fact of clocks. -/
import Derived.Test.YtlpgafpmhihneaaDoorClockPlain
namespace Go.Proofs.YtlpgafpmhihneaaDoor
open Go.RowKit

theorem midV_bounds {l : List Int} {k : Nat} (h : (clockF l k).1 = 0) : -1000000 ≤ midV l k ∧ midV l k ≤ 1000000 := by
  obtain ⟨_, _, hk, hfar⟩ := clockF_zero h
  have hfx : ∀ j, j < l.length → -1000000 ≤ (sortL l).getD j 0 ∧ (sortL l).getD j 0 ≤ 1000000 := fun j hj => by
    have := hfar _ ((sortL_perm l).mem_iff.1 (getD_mem (by rw [sortL_length]; exact hj)))
    simp only [farB, decide_eq_false_iff_not] at this; omega
  have h1 := hfx k (by omega)
  have h2 := hfx (l.length - 1 - k) (by omega)
  unfold midV; omega
/-- clock.Mid: the number, the error, its place. -/
def midF (l : List Int) (k : Int) : Int × Nat × Int := if (clockF l k).1 = 0 then (midV l k.toNat, 0, -1) else (0, clockF l k)
theorem midF_le (l : List Int) (k : Int) : (midF l k).2.1 ≤ 11 := by
  have := clockF_le l k
  unfold midF; split
  · exact Nat.zero_le _
  · exact this

theorem mid_err (ea : Nat → Addr) (a : Option Addr) (n cap : Nat) (l : List Int) (k : Int) (w : World) (hg : Glob w ea [2]) (hn : l.length = n) (hr : RowAt w a (encInts l)) (hc : n ≤ 1000) (h : (clockF l k).1 ≠ 0) :
    Calls Tryd.prog 10 #[.slice a n cap, .int .i64 k] w fun e w' => ∃ v, e = .returned (.tuple #[.int .i64 0, v]) ∧ ErrIs ea w' v (clockF l k).1 (clockF l k).2 ∧ Below w.heap.size w w' := by
  have C := Lib.hid (clockRight_any ea a n cap l k w hg hn hr hc)
  have H := Lib.hid h
  clear h hn
  go_enter Tryd.func10, Tryd.ntmps10
  go_wp2_with fail
  refine C.out.mono ?_
  rintro e w1 ⟨v, rfl, hE, hb⟩
  obtain ⟨t, x, rfl⟩ := hE.held H.out
  go_wp2
  go_ret2
  exact ⟨_, rfl, hE, hb⟩
theorem mid_any (ea : Nat → Addr) (a : Option Addr) (n cap : Nat) (l : List Int) (k : Int) (w : World) (hg : Glob w ea [2]) (hn : l.length = n) (hr : RowAt w a (encInts l)) (hc : n ≤ 1000) :
    Calls Tryd.prog 10 #[.slice a n cap, .int .i64 k] w fun e w' => ∃ v, e = .returned (.tuple #[.int .i64 (midF l k).1, v]) ∧ ErrIs ea w' v (midF l k).2.1 (midF l k).2.2 ∧ Below w.heap.size w w' := by
  by_cases h : (clockF l k).1 = 0
  · obtain ⟨m, rfl⟩ : ∃ m : Nat, k = m := ⟨k.toNat, by have := (clockF_zero h).2.1; omega⟩
    have hF : midF l m = (midV l m, 0, -1) := by rw [midF, if_pos h, Int.toNat_natCast]
    rw [hF]
    refine (mid_ok ea a n cap l m w hg hn hr hc h).mono ?_
    rintro e w' ⟨rfl, hb⟩
    exact ⟨_, rfl, Or.inl ⟨rfl, (errV_zero ea).symm⟩, hb⟩
  · have hF : midF l k = (0, clockF l k) := by rw [midF, if_neg h]
    rw [hF]
    exact mid_err ea a n cap l k w hg hn hr hc h

/-- Spread of numbers. -/
def spreadF (l : List Int) : Int := if l = [] then 0 else Lib.maxOf l - Lib.minOf l
theorem spread_any (a : Option Addr) (n cap : Nat) (l : List Int) (w : World) (hn : l.length = n) (hr : RowAt w a (encInts l)) (hc : n ≤ 1000) (hfar : ∀ x ∈ l, farB x = false) :
    Calls Tryd.prog 11 #[.slice a n cap] w fun e w' => e = .returned (.int .i64 (spreadF l)) ∧ w = w' := by
  by_cases h0 : n = 0
  · have hl : l = [] := List.eq_nil_of_length_eq_zero (by omega)
    have HS : Hid (spreadF l = 0) := by unfold Hid; rw [spreadF, if_pos hl]
    subst h0
    clear hl hn
    go_enter Tryd.func11, Tryd.ntmps11
    go_wp2
    go_ret
    exact ⟨ret_int HS.out.symm, rfl⟩
  · have hl : l ≠ [] := fun e => by rw [e] at hn; simp at hn; omega
    have HS : Hid (spreadF l = Lib.maxOf l - Lib.minOf l) := by unfold Hid; rw [spreadF, if_neg hl]
    have hz : ((n : Int) == 0) = false := by simp; omega
    obtain ⟨b, off, rfl, hbl, hcells⟩ := hr.at (fun e => by have h1 := encInts_length l; rw [e, hn] at h1; simp at h1; omega)
    have hcc : ∀ j, j < l.length → w.cell? ⟨b, off + j, none⟩ = some (.int .i64 (l.getD j 0)) := fun j hj => hcells j _ (by simp [encInts, List.getD_eq_getElem?_getD, hj])
    have h1 := hfar _ (maxOf_max hl).1
    have h2 := hfar _ (minOf_min hl).1
    simp only [farB, decide_eq_false_iff_not] at h1 h2
    have K1 := Lib.hid (Tryd.slices_Max_int b off n cap l w (by omega) (by omega) (by omega) hcc)
    have K2 := Lib.hid (Tryd.slices_Min_int b off n cap l w (by omega) (by omega) (by omega) hcc)
    have ht : l.take n = l := List.take_of_length_le (by omega)
    rw [ht] at K1 K2
    clear hcells hcc hl hfar hn ht
    generalize hM : Lib.maxOf l = M at *
    generalize hm : Lib.minOf l = m at *
    clear hM hm
    go_enter Tryd.func11, Tryd.ntmps11
    go_wp2_with (first
      | (go_at_call 41; refine K1.out.mono ?_; rintro e w1 ⟨rfl, rfl⟩)
      | (go_at_call 42; refine K2.out.mono ?_; rintro e w1 ⟨rfl, rfl⟩))
    go_ret
    exact ⟨ret_int HS.out.symm, rfl⟩

theorem clk_F : (clockF [10, 12, 500, 11] 1).1 = 0 := by decide
theorem clk_V : midV [10, 12, 500, 11] 1 = 11 := by
  have e : sortL [10, 12, 500, 11] = [10, 11, 12, 500] := by
    have h : ([10, 11, 12, 500] : List Int).Pairwise (· ≤ ·) := by decide
    exact ((sortL_perm [10, 12, 500, 11]).trans (by decide)).eq_of_pairwise (le := (· ≤ ·)) (by intro a b _ _ h1 h2; exact Int.le_antisymm h1 h2) (sortL_sorted _) h
  rw [midV, e]; rfl
theorem clk_S : spreadF [3, 9] = 6 := by decide

set_option maxRecDepth 100000 in
theorem clocked_any (ea : Nat → Addr) (w : World) (hg : Glob w ea [2]) :
    Calls Tryd.prog 9 #[] w fun e w' => e = .returned (.bool true) ∧ Below w.heap.size w w' := by
  have C1 := Lib.hid (mid_ok ea (some ⟨w.heap.size, 0, none⟩) 4 4 [10, 12, 500, 11] 1 _ (hg.below ((Below.refl _ _).alloc (Nat.le_refl _) (.cells (encInts [10, 12, 500, 11]).toArray 3))) rfl (RowAt.new_at w (encInts [10, 12, 500, 11]) 3 _ rfl) (by omega) clk_F)
  have C2 := Lib.hid (fun (W : World) => spread_any (some ⟨W.heap.size, 0, none⟩) 2 2 [3, 9] _ rfl (RowAt.new_at W (encInts [3, 9]) 3 _ rfl) (by omega) (by decide))
  rw [clk_V] at C1
  rw [clk_S] at C2
  clear hg
  go_enter Tryd.func9, Tryd.ntmps9
  go_wp2_with fail
  refine C1.out.mono ?_
  rintro e w1 ⟨rfl, hb⟩
  have hw1 : Below w.heap.size w w1 := ((Below.refl _ _).alloc (Nat.le_refl _) _).trans (hb.mono (by simp))
  clear hb
  go_wp2_with fail
  refine (C2.out _).mono ?_
  rintro e w2 ⟨rfl, rfl⟩
  go_wp2
  go_ret
  exact ⟨rfl, hw1.alloc hw1.size _⟩
end Go.Proofs.YtlpgafpmhihneaaDoor
