/- the reference's TallyOf: the round is none; a right one. -/
import Derived.Test.YtoekajpjfoolpaaGreatDoorTallyOf
namespace Go.Proofs.YtoekajpjfoolpaaGreatDoor
open Go.RowKit

set_option maxRecDepth 100000 in
set_option maxHeartbeats 1600000 in
/-- The round is none. -/
theorem tallyOf_round (a : Option Addr) (n cap : Nat) (es : List Ent) (r : Int) (w : World) (hn : es.length = n) (hr : RowAt w a (encEnts es)) (hm : n ≤ 4611686018427387904) (h0 : (chk es).1 = 0) (h1 : r < 1 ∨ 32 < r) :
    Calls Tryz.prog 173 #[.slice a n cap, .int .i64 r] w fun e w' => e = .returned (.tuple #[.int .i64 0, .int .i64 0, .agg #[.int .i64 2, .int .i64 (-1)]]) ∧ Below w.heap.size w w' := by
  have hb0 : Below w.heap.size w (w.alloc (.cells #[.int .i64 0, .int .i64 0] 33)) := (Below.refl _ _).alloc (Nat.le_refl _) _
  have C := Lib.hid (histFault_any a n cap es _ hn (hr.below hb0) hm)
  rw [chk_zero h0] at C
  simp only [Int.cast_ofNat_Int] at C
  have HB0 := Lib.hid hb0
  clear hb0 h0
  by_cases hlo : r < 1
  all_goals
    go_enter Tryz.func173, Tryz.ntmps173
    go_wp2_with fail
    refine C.out.mono ?_
    rintro e w1 ⟨rfl, hb⟩
    obtain ⟨c0, c1, f0, f1, z1, hw1⟩ := own2 hb
    go_wp2_with fail
    refine (bare_any _ _).mono ?_
    rintro e w2 ⟨rfl, hb2⟩
    obtain ⟨d0, d1, g0, g1, z2⟩ := keep2 (past hb2) z1 c0 c1 f0 f1
    obtain ⟨q0, q1, r0, r1, z3, hw2⟩ := own2 hb2
    have hne : ¬ w.heap.size = w1.heap.size := by omega
    have hne2 : ¬ w1.heap.size = w.heap.size := by omega
    have hv2 := onto hw1 hw2
    go_wp2
    go_region
    go_wp2
    refine bodyPost_ret (v := .tuple #[.int .i64 0, .int .i64 0, .agg #[.int .i64 2, .int .i64 (-1)]]) (by simp [results, Tryz.results173, go_sem, d0, d1]) rfl ?_
    refine ⟨rfl, below_drewN (w := ((((w2.setCell ⟨w1.heap.size, 0, none⟩ (.int .i64 2)).setCell ⟨w1.heap.size, 1, none⟩ (.int .i64 (-1))).setCell ⟨w.heap.size, 0, none⟩ (.int .i64 2)).setCell ⟨w.heap.size, 1, none⟩ (.int .i64 (-1)))) ?_ 1⟩
    exact ((((hv2.setCell (by simp; omega) _).setCell (by simp; omega) _).setCell (by simp) _).setCell (by simp) _)

set_option maxRecDepth 100000 in
set_option maxHeartbeats 3200000 in
theorem tallyOf_ok (a : Option Addr) (n cap : Nat) (es : List Ent) (r : Int) (w : World) (hn : es.length = n) (hr : RowAt w a (encEnts es)) (hm : n ≤ 4611686018427387904) (h0 : (chk es).1 = 0) (h1 : 1 ≤ r) (h2 : r ≤ 32) :
    Calls Tryz.prog 173 #[.slice a n cap, .int .i64 r] w fun e w' => e = .returned (.tuple #[.int .i64 (goods (lastR r es)), .int .i64 (bads (lastR r es)), .agg #[.int .i64 0, .int .i64 (-1)]]) ∧ Below w.heap.size w w' := by
  have hb0 : Below w.heap.size w (w.alloc (.cells #[.int .i64 0, .int .i64 0] 33)) := (Below.refl _ _).alloc (Nat.le_refl _) _
  have C := Lib.hid (histFault_any a n cap es _ hn (hr.below hb0) hm)
  rw [chk_zero h0] at C
  simp only [Int.cast_ofNat_Int] at C
  have HN := Lib.hid hn
  clear hb0 h0 hn
  go_enter Tryz.func173, Tryz.ntmps173
  go_wp2_with fail
  refine C.out.mono ?_
  rintro e w1 ⟨rfl, hb⟩
  obtain ⟨c0, c1, f0, f1, z1, hw1⟩ := own2 hb
  obtain ⟨R0, R1⟩ := res2 z1 c0 c1
  have hr1 := hr.below (hw1.alloc hw1.size (.cells #[.int .i64 0, .int .i64 (-1)] 33))
  go_wp2
  -- what is behind place d of the first k entries
  go_loop [8, 9, 10] (fun g b i => ∃ k : Nat, k ≤ n ∧ i = .int .i64 k ∧ g = .int .i64 (goods ((es.take k).drop ((n : Int) - r).toNat)) ∧ b = .int .i64 (bads ((es.take k).drop ((n : Int) - r).toNat))) (fun _ _ i => n - (intOf i).toNat)
  case atStart => exact ⟨0, Nat.zero_le _, rfl, by simp [goods], by simp [bads]⟩
  case round =>
    obtain ⟨k, hk, rfl, rfl, rfl⟩ := hrel
    by_cases hlt : k < n
    · have hkt : k < es.length := by have := HN.out; omega
      obtain ⟨b, off, rfl, hbl, q0, q1, q2, q3⟩ := hr1.ent k hkt
      have ht : es.take (k + 1) = es.take k ++ [es[k]] := List.take_succ_eq_append_getElem hkt
      have hlk : (es.take k).length = k := by rw [List.length_take]; omega
      by_cases hin : (k : Int) < (n : Int) - r
      · have HS : Hid ((es.take (k + 1)).drop ((n : Int) - r).toNat = (es.take k).drop ((n : Int) - r).toNat) := by
          unfold Hid
          rw [List.drop_eq_nil_of_le (by rw [List.length_take]; omega), List.drop_eq_nil_of_le (by rw [hlk]; omega)]
        clear ht hlk q0 q1 q2 q3 hkt
        go_wp2
        go_round
        case rel => exact ⟨k + 1, by omega, by go_num, by rw [HS.out], by rw [HS.out]⟩
        case measure => simp [intOf]; omega
      · have HS : Hid ((es.take (k + 1)).drop ((n : Int) - r).toNat = (es.take k).drop ((n : Int) - r).toNat ++ [es[k]]) := by
          unfold Hid
          rw [ht, List.drop_append_of_le_length (by rw [hlk]; omega)]
        have hg0 := goods_le ((es.take k).drop ((n : Int) - r).toNat)
        have hb0 := bads_le ((es.take k).drop ((n : Int) - r).toNat)
        have hl : ((es.take k).drop ((n : Int) - r).toNat).length ≤ k := by rw [List.length_drop, hlk]; omega
        have hi0 : (0 : Int) ≤ (k : Int) := by omega
        have hi1 : (k : Int) < (n : Int) := by omega
        have HG : ∀ e : Ent, goods ((es.take k).drop ((n : Int) - r).toNat ++ [e]) = goods ((es.take k).drop ((n : Int) - r).toNat) + (if e.heard then 1 else 0) := fun e => by
          simp only [goods, List.filter_append]; cases hh : e.heard <;> simp [hh]
        have HBd : ∀ e : Ent, bads ((es.take k).drop ((n : Int) - r).toNat ++ [e]) = bads ((es.take k).drop ((n : Int) - r).toNat) + (if e.heard then 0 else 1) := fun e => by
          simp only [bads, List.filter_append]; cases hh : e.heard <;> simp [hh]
        have HG := Lib.hid (HG es[k])
        have HBd := Lib.hid (HBd es[k])
        generalize (es.take k).drop ((n : Int) - r).toNat = tl at *
        generalize es[k] = ek at *
        clear ht hlk hkt
        cases hh : ek.heard
        all_goals
          rw [hh] at q2 HG HBd
          clear hh
          go_wp2
          go_round
          case rel => exact ⟨k + 1, by omega, by go_num, by rw [HS.out, HG.out]; first | rfl | go_num, by rw [HS.out, HBd.out]; first | rfl | go_num⟩
          case measure => simp [intOf]; omega
    · have e1 : (es.take k).drop ((n : Int) - r).toNat = lastR r es := by
        have := HN.out
        rw [lastR, List.take_of_length_le (by omega), this]
      rw [e1]
      clear e1
      go_wp2
      go_region
      go_wp2
      refine bodyPost_ret (v := .tuple #[.int .i64 (goods (lastR r es)), .int .i64 (bads (lastR r es)), .agg #[.int .i64 0, .int .i64 (-1)]]) (by simp [results, Tryz.results173, go_sem, R0, R1]) rfl ?_
      exact ⟨rfl, below_drewN (((hw1.setCell (by simp) _).setCell (by simp) _).alloc (by simpa using hw1.size) _) 1⟩

theorem tallyOf_any (a : Option Addr) (n cap : Nat) (es : List Ent) (r : Int) (w : World) (hn : es.length = n) (hr : RowAt w a (encEnts es)) (hm : n ≤ 4611686018427387904) :
    Calls Tryz.prog 173 #[.slice a n cap, .int .i64 r] w fun e w' => e = .returned (.tuple #[.int .i64 (tG r es), .int .i64 (tB r es), .agg #[.int .i64 (tC r es), .int .i64 (chk es).2]]) ∧ Below w.heap.size w w' := by
  by_cases h0 : (chk es).1 = 0
  · have e1 : (chk es).2 = -1 := by rw [chk_zero h0]
    by_cases h1 : 1 ≤ r ∧ r ≤ 32
    · rw [tG, tB, tC, if_pos ⟨h0, h1⟩, if_pos ⟨h0, h1⟩, if_neg (by simp [h0]), if_pos h1, e1]
      exact tallyOf_ok a n cap es r w hn hr hm h0 h1.1 h1.2
    · rw [tG, tB, tC, if_neg (fun h => h1 h.2), if_neg (fun h => h1 h.2), if_neg (by simp [h0]), if_neg h1, e1]
      exact tallyOf_round a n cap es r w hn hr hm h0 (by omega)
  · rw [tG, tB, tC, if_neg (fun h => h0 h.1), if_neg (fun h => h0 h.1), if_pos h0]
    exact tallyOf_chk a n cap es r w hn hr hm h0
end Go.Proofs.YtoekajpjfoolpaaGreatDoor
