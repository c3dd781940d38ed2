/- bus: asSent, longSent of the law; slices.Contains of numbers. -/
import Derived.Test.YtmikeblbfmfimaaDoorFlat
import Derived.Test.YtmikeblbfmfimaaDoorClique3
import Derived.Deep.RegionHeld3
import Derived.Deep.AppendLies
namespace Go.Proofs.YtmikeblbfmfimaaDoor
open Go.RowKit

theorem info_sent : (Tryd.prog.info? 122).map (fun i => (i.zero, i.size, i.bytes)) = some (some (.agg #[.int .i64 0, .int .i64 0, .string ByteArray.empty]), 3, 32) := by kernel_rfl

set_option maxRecDepth 100000 in
set_option maxHeartbeats 800000 in
theorem asSent_any (a : Option Addr) (n cap : Nat) (l : List Snt) (w : World) (hn : l.length = n) (hr : RowAt w a (encSents l)) (hc : n ≤ 1000) :
    Calls Tryd.prog 50 #[.slice a n cap] w fun e w' => ∃ a' cap', e = .returned (.slice a' n cap') ∧ RowAt w' a' (encSents l) ∧ n ≤ cap' ∧ Below w.heap.size w w' := by
  have HN := Lib.hid hn
  obtain ⟨i0, hi, hz0, hz1, hz2⟩ := info_parts info_sent
  have hi' := Lib.hid hi
  have hz0' := Lib.hid hz0
  have hz1' := Lib.hid hz1
  have hz2' := Lib.hid hz2
  clear hi hz0 hz1 hz2 hn
  go_enter Tryd.func50, Tryd.ntmps50
  go_wp2
  go_loopw [3, 4] (fun va i wr => ∃ k : Nat, k ≤ n ∧ i = .int .i64 k ∧ wr.ownsRow w.heap.size 122 3 va k (encSents (l.take k)) ∧ Below w.heap.size w wr) (fun _ i _ => n - (intOf i).toNat)
  case atStart => exact ⟨0, Nat.zero_le _, rfl, World.ownsRow_nil _ _ _ _, Below.refl _ _⟩
  case round =>
    obtain ⟨k, hk, rfl, ho, hb⟩ := hrel
    by_cases hlt : k < n
    · have hkt : k < l.length := by have := HN.out; omega
      obtain ⟨b, off, rfl, hbl, c0, c1, c2⟩ := hr.snt k hkt
      have ht : Hid (l.take (k + 1) = l.take k ++ [l[k]]) := List.take_succ_eq_append_getElem hkt
      have hi0 : (0 : Int) ≤ (k : Int) := by omega
      have hi1 : (k : Int) < (n : Int) := by omega
      have hsz := hb.size
      generalize l[k] = s at *
      have d0 := (hb.cell (p := ⟨b, off + k * 3, none⟩) hbl).trans c0
      have d1 := (hb.cell (p := ⟨b, off + k * 3 + 1, none⟩) hbl).trans c1
      have d2 := (hb.cell (p := ⟨b, off + k * 3 + 2, none⟩) hbl).trans c2
      have hne := Lib.hid (show u3.ownBlock ≠ some b from fun e => by have := (ho.lt b e).1; omega)
      have hlw : b < wr.heap.size := by omega
      clear hkt c0 c1 c2
      go_wp2
      go_region_held3 (fun w' => w'.cell? ⟨b, off + k * 3, none⟩ = some (.int .i64 s.node) ∧ w'.cell? ⟨b, off + k * 3 + 1, none⟩ = some (.int .i64 s.tick) ∧ w'.cell? ⟨b, off + k * 3 + 2, none⟩ = some (.string s.text))
        (first
          | go_keep
          | (go_split_ands
             refine ⟨?_, ?_, ?_⟩
             · (rw [hgrow.cell_far _ (by simp; omega) (Ne.symm hne.out)]; assumption)
             · (rw [hgrow.cell_far _ (by simp; omega) (Ne.symm hne.out)]; assumption)
             · (rw [hgrow.cell_far _ (by simp; omega) (Ne.symm hne.out)]; assumption)))
        ((refine step_append_lies _ (by rfl) _ _ _ (by rfl) w.heap.size 122 i0 _ 3 32 Tryd.underlying84 hi'.out hz0'.out hz1'.out hz2'.out rfl (by omega) u3 k (encSents (l.take k)) (by rfl) ((ho.alloc _).drew)
              ⟨wr.heap.size, 0, none⟩ 1 1 s.cells (by rfl) (by rfl) (World.news_of_block (cs := s.cells.toArray) (t := 122) (fr := (0, 0)) (heap_alloc_new wr _)) (Snt.one s)
              (by omega) (by unfold maxLen; omega) (by omega) (by simp; omega) (wr.heap.size + 1) (by simp) ?_; intro gg cap w1 ho1 hgrow hat hlt2))
      go_wp2
      have hb5 : Below w.heap.size w w1 := (below_drewN (hb.alloc hsz _) 1).grown hgrow (by simp; omega) (fun j e => (ho.lt j e).1)
      go_roundw
      case rel => exact ⟨k + 1, by omega, by go_num, by rw [ht.out, encSents_snoc]; exact ho1, hb5⟩
      case measure => simp [intOf]; omega
    · obtain rfl : k = n := by omega
      have ht : l.take k = l := List.take_of_length_le (by have := HN.out; omega)
      rw [ht] at ho
      clear ht
      obtain ⟨aa, ca, rfl⟩ := owned_shape ho
      obtain ⟨ra, _, na, ma⟩ := RowAt.owned ho
      go_wp2
      go_ret
      exact ⟨aa, ca, rfl, ra, na, hb⟩

/-- Is too much sent, or too long? -/
def longS (l : List Snt) : Bool := decide (45 < l.length) || l.any fun s => decide (120 < s.text.size)

set_option maxRecDepth 100000 in
theorem longSent_any (a : Option Addr) (n cap : Nat) (l : List Snt) (w : World) (hn : l.length = n) (hr : RowAt w a (encSents l)) (hc : n ≤ 4611686018427387904) :
    Calls Tryd.prog 48 #[.slice a n cap] w fun e w' => e = .returned (.bool (longS l)) ∧ w = w' := by
  by_cases h : 45 < n
  · have hl : Hid (longS l = true) := by unfold Hid; rw [longS, hn, decide_eq_true h, Bool.true_or]
    go_enter Tryd.func48, Tryd.ntmps48
    go_wp2
    go_ret
    exact ⟨ret_bool hl.out.symm, rfl⟩
  · have HL : Hid (longS l = l.any fun s => decide (120 < s.text.size)) := by unfold Hid; rw [longS, hn, decide_eq_false h, Bool.false_or]
    have HN := Lib.hid hn
    have hd : decide ((45 : Int) < (n : Int)) = false := by simp; omega
    clear hn
    go_enter Tryd.func48, Tryd.ntmps48
    go_wp2
    go_loop [3] (fun i => ∃ k : Nat, k ≤ n ∧ i = .int .i64 k ∧ Hid ((l.drop k).any (fun s => decide (120 < s.text.size)) = longS l)) (fun i => n - (intOf i).toNat)
    case atStart => exact ⟨0, Nat.zero_le _, rfl, by unfold Hid; rw [HL.out]; rfl⟩
    case round =>
      obtain ⟨k, hk, rfl, HK⟩ := hrel
      by_cases hlt : k < n
      · have hkt : k < l.length := by have := HN.out; omega
        obtain ⟨b, off, rfl, hbl, c0, c1, c2⟩ := hr.snt k hkt
        have ht : Hid (l.drop k = l[k] :: l.drop (k + 1)) := List.drop_eq_getElem_cons hkt
        generalize l[k] = s at *
        clear hkt
        by_cases hs : 120 < s.text.size
        · have HS : Hid (longS l = true) := by unfold Hid at HK ⊢; rw [← HK, ht.out, List.any_cons, decide_eq_true hs, Bool.true_or]
          have hs1 : (120 : Int) < (s.text.size : Int) := by omega
          clear hs
          go_wp2
          go_ret
          exact ⟨ret_bool HS.out.symm, rfl⟩
        · have HS : Hid ((l.drop (k + 1)).any (fun s => decide (120 < s.text.size)) = longS l) := by unfold Hid at HK ⊢; rw [← HK, ht.out, List.any_cons, decide_eq_false hs, Bool.false_or]
          have hs1 : ¬ (120 : Int) < (s.text.size : Int) := by omega
          clear hs
          go_wp2
          go_round
          case rel => exact ⟨k + 1, by omega, by go_num, HS⟩
          case measure => simp [intOf]; omega
      · have HS : Hid (longS l = false) := by unfold Hid at HK ⊢; rw [← HK, List.drop_eq_nil_of_le (by have := HN.out; omega)]; rfl
        go_wp2
        go_ret
        exact ⟨ret_bool HS.out.symm, rfl⟩

/-- The first place of a number from i on; below 0: none. -/
def idxOf (x : Int) (i : Int) : List Int → Int
  | [] => -1
  | y :: r => if x = y then i else idxOf x (i + 1) r
theorem idxOf_nonneg (x : Int) : ∀ (l : List Int) (i : Int), 0 ≤ i → (0 ≤ idxOf x i l ↔ x ∈ l)
  | [], i, _ => by simp [idxOf]
  | y :: r, i, h => by
    rw [idxOf]
    by_cases hx : x = y
    · simp [hx, h]
    · simp [hx, idxOf_nonneg x r (i + 1) (by omega)]

theorem index_any (x : Int) (a : Option Addr) (n cap : Nat) (l : List Int) (w : World) (hn : l.length = n) (hr : RowAt w a (encInts l)) (hc : n ≤ 4611686018427387904) :
    Calls Tryd.prog 90 #[.slice a n cap, .int .i64 x] w fun e w' => e = .returned (.int .i64 (idxOf x 0 l)) ∧ w = w' := by
  have HN := Lib.hid hn
  clear hn
  go_enter Tryd.func90, Tryd.ntmps90
  go_wp2
  go_loop [8] (fun i => ∃ k : Nat, k ≤ n ∧ i = .int .i64 k ∧ Hid (idxOf x k (l.drop k) = idxOf x 0 l)) (fun i => n - (intOf i).toNat)
  case atStart => exact ⟨0, Nat.zero_le _, rfl, rfl⟩
  case round =>
    obtain ⟨k, hk, rfl, HK⟩ := hrel
    by_cases hlt : k < n
    · have hkt : k < l.length := by have := HN.out; omega
      obtain ⟨b, off, rfl, hbl, c0⟩ := hr.int k hkt
      have hd : l.drop k = l[k] :: l.drop (k + 1) := List.drop_eq_getElem_cons hkt
      generalize l[k] = y at *
      clear hkt
      by_cases hx : x = y
      · have HS : Hid (idxOf x 0 l = k) := by unfold Hid at HK ⊢; rw [← HK, hd, idxOf, if_pos hx]
        have hb : (x == y) = true := by simp [hx]
        clear hd hx HK
        go_wp2
        go_ret
        exact ⟨ret_int HS.out.symm, rfl⟩
      · have HS : Hid (idxOf x (k + 1 : Nat) (l.drop (k + 1)) = idxOf x 0 l) := by unfold Hid at HK ⊢; rw [← HK, hd, idxOf, if_neg hx]; rfl
        have hb : (x == y) = false := by simp [hx]
        clear hd hx HK
        go_wp2
        go_round
        case rel => exact ⟨k + 1, by omega, by go_num, HS⟩
        case measure => simp [intOf]; omega
    · have HS : Hid (idxOf x 0 l = -1) := by unfold Hid at HK ⊢; rw [← HK, List.drop_eq_nil_of_le (by have := HN.out; omega)]; rfl
      go_wp2
      go_ret
      exact ⟨ret_int HS.out.symm, rfl⟩

theorem contains_any (x : Int) (a : Option Addr) (n cap : Nat) (l : List Int) (w : World) (hn : l.length = n) (hr : RowAt w a (encInts l)) (hc : n ≤ 4611686018427387904) :
    Calls Tryd.prog 80 #[.slice a n cap, .int .i64 x] w fun e w' => e = .returned (.bool (decide (x ∈ l))) ∧ w = w' := by
  have HB : Hid (decide (0 ≤ idxOf x 0 l) = decide (x ∈ l)) := by unfold Hid; rw [Bool.eq_iff_iff]; simp [idxOf_nonneg x l 0 (by omega)]
  go_enter Tryd.func80, Tryd.ntmps80
  go_wp2_with (go_at_call 90; refine (index_any _ _ _ _ l _ hn hr hc).mono ?_; rintro e w' ⟨rfl, rfl⟩)
  go_ret
  exact ⟨ret_bool HB.out, rfl⟩
end Go.Proofs.YtmikeblbfmfimaaDoor
