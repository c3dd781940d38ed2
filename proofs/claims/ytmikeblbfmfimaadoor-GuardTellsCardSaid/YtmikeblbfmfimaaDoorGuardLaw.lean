/- GuardOne: the closed fact, the law's walk. -/
import Derived.Test.YtmikeblbfmfimaaDoorWait
import Derived.Test.YtmikeblbfmfimaaDoorCoded
namespace Go.Proofs.YtmikeblbfmfimaaDoor
open Go.RowKit

theorem pass_yes (ea : Nat → Addr) (a : Option Addr) (n cap : Nat) (l : List Int) (long node tick : Int) (w : World) (hg : Glob w ea [5, 7, 4, 2, 9]) (hn : l.length = n) (hr : RowAt w a (encInts l)) (hc : n ≤ 4611686018427387904) (h : (passF l long node tick).1 = 0) :
    Calls Tryd.prog 36 #[.slice a n cap, .int .i64 long, .int .i64 node, .int .i64 tick] w fun e w' => e = .returned .nilIface ∧ Below w.heap.size w w' :=
  (pass_any ea a n cap l long node tick w hg hn hr hc).mono fun e w' ⟨v, h1, h2, h3⟩ => by
    rw [h] at h2; obtain rfl := h2.nil; exact ⟨h1, h3⟩
theorem pass_no (ea : Nat → Addr) (a : Option Addr) (n cap : Nat) (l : List Int) (long node tick : Int) (w : World) (hg : Glob w ea [5, 7, 4, 2, 9]) (hn : l.length = n) (hr : RowAt w a (encInts l)) (hc : n ≤ 4611686018427387904) (h : (passF l long node tick).1 ≠ 0) :
    Calls Tryd.prog 36 #[.slice a n cap, .int .i64 long, .int .i64 node, .int .i64 tick] w fun e w' => ∃ t x, e = .returned (.iface t x) ∧ Below w.heap.size w w' :=
  (pass_any ea a n cap l long node tick w hg hn hr hc).mono fun e w' ⟨v, h1, h2, h3⟩ => by
    obtain ⟨t, x, rfl⟩ := h2.held h; exact ⟨t, x, h1, h3⟩

theorem passF_at {l : List Int} {long node t : Int} {s : Nat} (hp : (planF l).1 = 0) (h : slotE long t = 0) (hs : t / long = s) : (passF l long node t).1 = 0 ↔ whoV l s = node := by
  rw [passF, if_neg (by simp [h]), if_neg (by simp [hp]), hs, Int.toNat_natCast]
  by_cases h1 : whoV l s = node <;> simp [h1]

theorem gu_P : (planF [2, 1]).1 = 0 := by decide
theorem gu_no : ∀ j, j < 1 → ¬ whoV [2, 1] (0 + j) = 1 := by decide

set_option maxRecDepth 100000 in
set_option maxHeartbeats 800000 in
theorem guarded_any (ea : Nat → Addr) (w : World) (hG : GlobC w ea) :
    Calls Tryd.prog 33 #[] w fun e w' => e = .returned (.bool true) ∧ Below w.heap.size w w' := by
  have C1 := Lib.hid (wait_later ea (some ⟨w.heap.size, 0, none⟩) 2 2 [2, 1] 10 1 3 0 1 _ ((hG.below ((Below.refl _ _).alloc (Nat.le_refl _) (.cells (encInts [2, 1]).toArray 3))).sub (by simp)) rfl (RowAt.new_at w (encInts [2, 1]) 3 _ rfl) rfl rfl gu_P (by omega) (by omega) rfl gu_no)
  have C2 := Lib.hid (fun (W : World) (hb : Below w.heap.size w W) => pass_yes ea (some ⟨W.heap.size, 0, none⟩) 2 2 [2, 1] 10 2 9 _ (((hG.below hb).below ((Below.refl _ _).alloc (Nat.le_refl _) (.cells (encInts [2, 1]).toArray 3))).sub (by simp)) rfl (RowAt.new_at W (encInts [2, 1]) 3 _ rfl) (by omega) (by decide))
  have C3 := Lib.hid (fun (W : World) (hb : Below w.heap.size w W) => pass_any ea (some ⟨W.heap.size, 0, none⟩) 2 2 [2, 1] 10 1 9 _ (((hG.below hb).below ((Below.refl _ _).alloc (Nat.le_refl _) (.cells (encInts [2, 1]).toArray 3))).sub (by simp)) rfl (RowAt.new_at W (encInts [2, 1]) 3 _ rfl) (by omega))
  have hf : passF [2, 1] 10 1 9 = (9, -1) := by decide
  have HF := Lib.hid hf
  have HG := Lib.hid hG
  clear hG hf
  go_enter Tryd.func33, Tryd.ntmps33
  go_wp2_with fail
  refine C1.out.mono ?_
  rintro e w1 ⟨he, hb1⟩
  rw [if_pos (by decide)] at he
  subst he
  have hw1 : Below w.heap.size w w1 := ((Below.refl _ _).alloc (Nat.le_refl _) _).trans (hb1.mono (by simp))
  clear hb1
  go_wp2_with fail
  refine (C2.out _ hw1).mono ?_
  rintro e w2 ⟨rfl, hb2⟩
  have hw2 : Below w.heap.size w w2 := (hw1.alloc hw1.size _).trans (hb2.mono (by have := hw1.size; simp; omega))
  clear hb2
  go_wp2_with fail
  refine (C3.out _ hw2).mono ?_
  rintro e w3 ⟨v, rfl, hE, hb3⟩
  rw [HF.out] at hE
  have hw3 : Below w.heap.size w w3 := (hw2.alloc hw2.size _).trans (hb3.mono (by have := hw2.size; simp; omega))
  clear hb3
  go_wp2_with fail
  refine (coded1_any ea v 9 (-1) 9 _ (HG.out.below hw3) hE (by omega)).mono ?_
  rintro e w4 ⟨rfl, hb4⟩
  rw [decide_eq_true (⟨rfl, rfl⟩ : ((9 : Nat) : Int) = 9 ∧ (-1 : Int) = -1)]
  go_wp2
  go_ret
  exact ⟨rfl, hw3.trans (hb4.mono hw3.size)⟩

/-- How many of those below j is who. -/
def cnt (who j : Int) : Int := if who < j then 1 else 0
theorem cnt_01 (who j : Int) : 0 ≤ cnt who j ∧ cnt who j ≤ 1 := by unfold cnt; split <;> omega
theorem cnt_hit (who : Int) : cnt who (who + 1) = cnt who who + 1 := by unfold cnt; rw [if_pos (by omega), if_neg (by omega)]; rfl
theorem cnt_miss {who j : Int} (h : who ≠ j) : cnt who (j + 1) = cnt who j := by unfold cnt; split <;> split <;> omega

/-- What guard.Wait answers of a right plan and tick, and what the law asks of it. -/
def waitOk (l : List Int) (long node tick : Int) (v : Value) (x : Value) : Prop :=
  (∃ t y, v = .int .i64 0 ∧ x = .iface t y ∧ (passF l long node tick).1 ≠ 0)
  ∨ (v = .int .i64 tick ∧ x = .nilIface ∧ (passF l long node tick).1 = 0)
  ∨ (∃ z : Int, v = .int .i64 z ∧ x = .nilIface ∧ tick < z ∧ z ≤ 1000000 ∧ (passF l long node z).1 = 0 ∧ (passF l long node tick).1 ≠ 0 ∧ (passF l long node (z - 1)).1 ≠ 0)

theorem waitOk_any (ea : Nat → Addr) (a : Option Addr) (n cap : Nat) (l : List Int) (long node tick : Int) (w : World) (hg : Glob w ea [5, 7, 4, 2]) (hn : l.length = n) (hr : RowAt w a (encInts l)) (h : slotE long tick = 0) (hp : (planF l).1 = 0) :
    Calls Tryd.prog 38 #[.slice a n cap, .int .i64 long, .int .i64 node, .int .i64 tick] w fun e w' => ∃ v x, e = .returned (.tuple #[v, x]) ∧ waitOk l long node tick v x ∧ Below w.heap.size w w' := by
  obtain ⟨s, hs, hs1⟩ := slot_nat h
  obtain ⟨k1, k2, k3, k4⟩ := slotE_ok h
  have hF := planF_ok hp
  by_cases hw : whoV l s = node
  · exact (wait_now ea a n cap l long node tick s w hg hn hr h hs hp hw).mono fun e w' ⟨h1, h2⟩ => ⟨_, _, h1, Or.inr (Or.inl ⟨rfl, rfl, (passF_at hp h hs).2 hw⟩), h2⟩
  · have hno : (passF l long node tick).1 ≠ 0 := fun e => hw ((passF_at hp h hs).1 e)
    rcases first_or_none (fun j => whoV l (s + j) = node) n with ⟨m, hm, h1, h2⟩ | h1
    · have hm0 : 0 < m := by
        rcases Nat.eq_zero_or_pos m with e | e
        · subst e; exact absurd h1 hw
        · exact e
      refine (wait_later ea a n cap l long node tick s m w hg hn hr h hs hp hm0 hm h1 h2).mono fun e w' ⟨h3, h4⟩ => ?_
      by_cases hq : ((s + m : Nat) : Int) * long ≤ 1000000
      · rw [if_pos hq] at h3
        have hpos : (0 : Int) < long := by omega
        have e1 : tick < ((s + m : Nat) : Int) * long := by
          have h5 : tick < (s + 1 : Int) * long := (Int.ediv_lt_iff_lt_mul hpos).1 (by omega)
          have h6 : (s + 1 : Int) * long ≤ ((s + m : Nat) : Int) * long := Int.mul_le_mul_of_nonneg_right (by omega) (by omega)
          omega
        have d1 : ((s + m : Nat) : Int) * long / long = ((s + m : Nat) : Int) := Int.mul_ediv_cancel _ (by omega)
        have d2 : (((s + m : Nat) : Int) * long - 1) / long = ((s + m - 1 : Nat) : Int) := by
          refine Int.le_antisymm ?_ ?_
          · have h5 : (((s + m : Nat) : Int) * long - 1) / long < ((s + m : Nat) : Int) := (Int.ediv_lt_iff_lt_mul hpos).2 (by omega)
            omega
          · refine (Int.le_ediv_iff_mul_le hpos).2 ?_
            have h5 : ((s + m : Nat) : Int) * long = ((s + m - 1 : Nat) : Int) * long + long := by
              rw [show ((s + m : Nat) : Int) = ((s + m - 1 : Nat) : Int) + 1 by omega, Int.add_mul, Int.one_mul]
            omega
        refine ⟨_, _, h3, Or.inr (Or.inr ⟨_, rfl, rfl, e1, hq, (passF_at hp ?_ d1).2 h1, hno, fun e => ?_⟩), h4⟩
        · rw [slotE, if_pos ⟨k1, k2, by omega, hq⟩]
        · have h5 := (passF_at hp (by rw [slotE, if_pos ⟨k1, k2, by omega, by omega⟩]) d2).1 e
          rw [show s + m - 1 = s + (m - 1) by omega] at h5
          exact h2 (m - 1) (by omega) h5
      · rw [if_neg hq, errV_pos ea (by decide)] at h3
        exact ⟨_, _, h3, Or.inl ⟨_, _, rfl, rfl, hno⟩, h4⟩
    · refine (wait_none ea a n cap l long node tick s w hg hn hr h hs hp h1).mono fun e w' ⟨h3, h4⟩ => ?_
      rw [errV_pos ea (by decide)] at h3
      exact ⟨_, _, h3, Or.inl ⟨_, _, rfl, rfl, hno⟩, h4⟩

end Go.Proofs.YtmikeblbfmfimaaDoor
