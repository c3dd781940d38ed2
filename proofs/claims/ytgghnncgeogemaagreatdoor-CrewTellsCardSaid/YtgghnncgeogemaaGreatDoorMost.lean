/- crew.Most, the reference's MostOf. -/
import Derived.Test.YtgghnncgeogemaaGreatDoorLib
import Derived.Maps.Own
import Derived.Maps.OwnOps
import Derived.Maps.Views
import Derived.RegionTactic
import Derived.BigQuiet
namespace Go.Proofs.YtgghnncgeogemaaGreatDoor
open Go.RowKit Go.Maps

/-- The first of those that are most, of the first k; and how many. -/
def mostP (l : List Int) : Nat → Int × Nat
  | 0 => (0, 0)
  | k + 1 => if (mostP l k).2 < l.count (l.getD k 0) then (l.getD k 0, l.count (l.getD k 0)) else mostP l k
theorem mostP_le (l : List Int) : ∀ k, (mostP l k).2 ≤ l.length
  | 0 => Nat.zero_le _
  | k + 1 => by
    rw [mostP]
    split
    · exact List.count_le_length
    · exact mostP_le l k
theorem count_take (l : List Int) (x : Int) (j : Nat) (hj : j < l.length) : (l.take (j + 1)).count x = (l.take j).count x + if l.getD j 0 = x then 1 else 0 := by
  rw [List.take_succ_eq_append_getElem hj, List.count_append, List.count_singleton]
  have e : l.getD j 0 = l[j] := by simp [List.getD_eq_getElem?_getD, hj]
  rw [e]
  by_cases h : l[j] = x
  · simp [h]
  · simp [h]
theorem count_take_le (l : List Int) (x : Int) (j : Nat) : (l.take j).count x ≤ l.length := Nat.le_trans List.count_le_length (by simp; omega)

set_option maxRecDepth 100000 in
set_option maxHeartbeats 1600000 in
theorem mostOf_any (a : Option Addr) (n cap : Nat) (l : List Int) (w : World) (hn : l.length = n) (hr : RowAt w a (encInts l)) (hc : n ≤ 4611686018427387904) :
    Calls Tryz.prog 29 #[.slice a n cap] w fun e w' => e = .returned (.tuple #[.int .i64 (mostP l n).1, .int .i64 (mostP l n).2]) ∧ Below w.heap.size w w' := by
  by_cases h0 : n = 0
  · subst h0
    clear hr hn
    go_enter Tryz.func29, Tryz.ntmps29
    go_wp2
    refine wp_loop_rounds 1 ?_
    rw [rounds_succ]
    go_wp2
    go_ret2
    exact ⟨rfl, Below.refl _ _⟩
  · obtain ⟨b, off, rfl, hbl, hcells⟩ := hr.at (fun e => by have h1 := encInts_length l; rw [e, hn] at h1; simp at h1; omega)
    have HC := Lib.hid (fun (j : Nat) (hj : j < n) => show w.cell? ⟨b, off + j, none⟩ = some (.int .i64 (l.getD j 0)) from hcells j _ (by simp [encInts, List.getD_eq_getElem?_getD, hn, hj]))
    have HP := Lib.hid (fun k => show mostP l (k + 1) = if (mostP l k).2 < l.count (l.getD k 0) then (l.getD k 0, l.count (l.getD k 0)) else mostP l k from rfl)
    have HL := Lib.hid (fun k => show (mostP l k).2 ≤ n by rw [← hn]; exact mostP_le l k)
    have HT := Lib.hid (fun (x : Int) (j : Nat) (hj : j < n) => count_take l x j (by omega))
    have HM := Lib.hid (fun (x : Int) (j : Nat) => show (l.take j).count x ≤ n by rw [← hn]; exact count_take_le l x j)
    have HW := Lib.hid (fun x : Int => show (l.take n).count x = l.count x by rw [List.take_of_length_le (by omega)])
    clear hcells hr hn h0
    go_enter Tryz.func29, Tryz.ntmps29
    go_wp2
    go_loopw [4, 5, 6] (fun bb mm i wr => ∃ k : Nat, k ≤ n ∧ i = .int .i64 k ∧ bb = .int .i64 (mostP l k).1 ∧ mm = .int .i64 (mostP l k).2 ∧ Below w.heap.size w wr) (fun _ _ i _ => n - (intOf i).toNat)
    case atStart => exact ⟨0, Nat.zero_le _, rfl, rfl, rfl, Below.refl _ _⟩
    case round =>
      obtain ⟨k, hk, rfl, rfl, rfl, hbw⟩ := hrel
      by_cases hlt : k < n
      · have hi0 : (0 : Int) ≤ (k : Int) := by omega
        have hi1 : (k : Int) < (n : Int) := by omega
        have HS := Lib.hid (HP.out k)
        have hM := HL.out k
        generalize mostP l k = q at *
        obtain ⟨B, M⟩ := q
        dsimp only at hM ⊢
        go_wp2
        go_loopw [7, 8] (fun c i wr => ∃ j : Nat, j ≤ n ∧ i = .int .i64 j ∧ c = .int .i64 ((l.take j).count (l.getD k 0) : Nat) ∧ Below w.heap.size w wr) (fun _ i _ => n - (intOf i).toNat)
        case atStart => exact ⟨0, Nat.zero_le _, rfl, by simp, hbw⟩
        case round =>
          obtain ⟨j, hj, rfl, rfl, hbv⟩ := hrel
          by_cases hlt2 : j < n
          · have hj0 : (0 : Int) ≤ (j : Int) := by omega
            have hj1 : (j : Int) < (n : Int) := by omega
            have dk := (hbv.cell (p := ⟨b, off + k, none⟩) hbl).trans (HC.out k hlt)
            have dj := (hbv.cell (p := ⟨b, off + j, none⟩) hbl).trans (HC.out j hlt2)
            have HX := Lib.hid (HT.out (l.getD k 0) j hlt2)
            have hCn := HM.out (l.getD k 0) j
            generalize (l.take j).count (l.getD k 0) = C at *
            by_cases hxy : l.getD j 0 = l.getD k 0
            · have HY : Hid ((l.take (j + 1)).count (l.getD k 0) = C + 1) := by unfold Hid; rw [HX.out, if_pos hxy]
              have hb : (l.getD j 0 == l.getD k 0) = true := by simpa using hxy
              generalize l.getD k 0 = x at *
              generalize l.getD j 0 = y at *
              clear hxy
              go_wp2
              go_quiet (fail)
              go_wp2
              go_roundw
              case rel => exact ⟨j + 1, by omega, by go_num, by rw [HY.out]; go_num, below_drewN hbv _⟩
              case measure => simp [intOf]; omega
            · have HY : Hid ((l.take (j + 1)).count (l.getD k 0) = C) := by unfold Hid; rw [HX.out, if_neg hxy]; rfl
              have hb : (l.getD j 0 == l.getD k 0) = false := by simpa using hxy
              generalize l.getD k 0 = x at *
              generalize l.getD j 0 = y at *
              clear hxy
              go_wp2
              go_quiet (fail)
              go_wp2
              go_roundw
              case rel => exact ⟨j + 1, by omega, by go_num, by rw [HY.out], below_drewN hbv _⟩
              case measure => simp [intOf]; omega
          · obtain rfl : j = n := by omega
            rw [HW.out]
            have dk := (hbv.cell (p := ⟨b, off + k, none⟩) hbl).trans (HC.out k hlt)
            have hCn := HM.out (l.getD k 0) j
            rw [HW.out] at hCn
            generalize l.count (l.getD k 0) = C at *
            generalize l.getD k 0 = x at *
            by_cases hgt : M < C
            · have HY : Hid (mostP l (k + 1) = (x, C)) := by unfold Hid; rw [HS.out, if_pos hgt]
              go_wp2
              go_roundw
              case rel => exact ⟨k + 1, by omega, by go_num, by rw [HY.out], by rw [HY.out], hbv⟩
              case measure => simp [intOf]; omega
            · have HY : Hid (mostP l (k + 1) = (B, M)) := by unfold Hid; rw [HS.out, if_neg hgt]
              go_wp2
              go_roundw
              case rel => exact ⟨k + 1, by omega, by go_num, by rw [HY.out], by rw [HY.out], hbv⟩
              case measure => simp [intOf]; omega
      · obtain rfl : k = n := by omega
        go_wp2
        go_ret2
        exact ⟨rfl, hbw⟩

theorem keyedInt : Keyed Tryz.prog 3 := int_keyed Tryz.underlying3
theorem zeroInt (w : World) : (zeroValue 3).run Tryz.prog w = .ok (.int .i64 0) w := by kernel_rfl
theorem wf_int {x : Int} (h0 : -9223372036854775808 ≤ x) (h1 : x ≤ 9223372036854775807) : (Lit.int .i64 x).wf = true := by
  simp [Lit.wf, IntKind.min, IntKind.max, IntKind.signed, IntKind.bits]
  omega
/-- Block mb is the map of how many of each there are. -/
def CntMap (w : World) (mb : Nat) (xs : List Int) : Prop := ∃ m, ∃ D : DataW Unit, m ≤ xs.length ∧ w.ownsMap Tryz.prog 3 (plainElem Tryz.prog 3) mb m D ∧ IsMap D ∧ ∀ x, D.atKey (.int .i64 x) (.lit (.int .i64 0)) = .lit (.int .i64 (xs.count x : Nat))
theorem cntMap_look {w : World} {mb : Nat} {xs : List Int} (h : CntMap w mb xs) {x : Int} (hx : (Lit.int .i64 x).wf = true) :
    (Instr.lookup 84 (.map (some mb)) (.int .i64 x) false).run Tryz.prog w = .ok (.int .i64 (xs.count x : Nat)) w := by
  obtain ⟨m, D, _, h, _, hD⟩ := h
  obtain ⟨c, hrun, hat, _⟩ := h.lookup_int keyedInt Tryz.underlying84 Tryz.underlying3 (zeroInt w) (keyOf_int_mk Tryz.underlying3 hx)
  rw [hD] at hat
  have e : ((xs.count x : Nat) : Int) = c := by simpa using hat
  rw [hrun, e]
theorem cntMap_put {w : World} {mb : Nat} {xs : List Int} (h : CntMap w mb xs) (hn : xs.length < 4611686018427387904) {x : Int} (hx : (Lit.int .i64 x).wf = true) :
    ∃ w', (Instr.mapUpdate 84 (.map (some mb)) (.int .i64 x) (.int .i64 ((xs.count x : Nat) + 1))).run Tryz.prog w = .ok () w' ∧ CntMap w' mb (xs ++ [x]) ∧ w.grownBy w' (some mb) := by
  obtain ⟨m, D, hm, h, hI, hD⟩ := h
  have hcl : xs.count x ≤ xs.length := List.count_le_length
  have hk : keyOf Tryz.prog 3 (.int .i64 x) = some (.int .i64 x) := keyOf_int_mk Tryz.underlying3 hx
  obtain ⟨w', hrun, ho, hg⟩ := h.update keyedInt Tryz.underlying84 (by unfold maxLen; omega) hk (plainElem_int Tryz.underlying3 (a := ((xs.count x : Nat) + 1 : Int)) (wf_int (by omega) (by omega)))
  refine ⟨w', hrun, ⟨m + 1, _, by simp; omega, ho, hI.put _ _, fun y => ?_⟩, hg⟩
  by_cases hxy : y = x
  · subst hxy
    rw [atKey_put_same hI (keyedInt.key hk)]
    simp
  · rw [atKey_put_other (fun e => hxy (by injection e)), hD]
    simp [List.count_append, Ne.symm hxy]
theorem CntMap.kept {w w' : World} {mb : Nat} {xs : List Int} (h : CntMap w mb xs) {row : Option Nat} (hg : w.grownBy w' row) (hne : some mb ≠ row) : CntMap w' mb xs := by
  obtain ⟨m, D, hm, h, hI, hD⟩ := h
  exact ⟨m, D, hm, h.kept hg hne, hI, hD⟩
theorem CntMap.drewN {w : World} {mb : Nat} {xs : List Int} (h : CntMap w mb xs) (n : Nat) : CntMap (w.drewN n) mb xs := by
  induction n generalizing w with
  | zero => exact h
  | succ n ih => exact ih (w := w.drew) h

set_option maxRecDepth 100000 in
set_option maxHeartbeats 1600000 in
theorem most_any (a : Option Addr) (n cap : Nat) (l : List Int) (w : World) (hn : l.length = n) (hr : RowAt w a (encInts l)) (hc : n < 4611686018427387904) (hw : ∀ x ∈ l, (Lit.int .i64 x).wf = true) :
    Calls Tryz.prog 28 #[.slice a n cap] w fun e w' => e = .returned (.tuple #[.int .i64 (mostP l n).1, .int .i64 (mostP l n).2]) ∧ Below w.heap.size w w' := by
  have HC := Lib.hid (fun (W : World) (hb : Below w.heap.size w W) (k : Nat) (hk : k < l.length) => (hr.below hb).int k hk)
  have HWF := Lib.hid (fun (k : Nat) (hk : k < l.length) => hw l[k] (List.getElem_mem hk))
  have HP := Lib.hid (fun k (hk : k < l.length) => show mostP l (k + 1) = if (mostP l k).2 < l.count l[k] then (l[k], l.count l[k]) else mostP l k by
    have e : l.getD k 0 = l[k] := by simp [List.getD_eq_getElem?_getD, hk]
    rw [mostP, e])
  have HL := Lib.hid (fun k => show (mostP l k).2 ≤ n by rw [← hn]; exact mostP_le l k)
  have HT := Lib.hid (fun k (hk : k < l.length) => show l.take (k + 1) = l.take k ++ [l[k]] from List.take_succ_eq_append_getElem hk)
  have HK := Lib.hid (fun (k : Nat) => show (l.take k).length < 4611686018427387904 by simp; omega)
  have HCL := Lib.hid (fun (k : Nat) (x : Int) => show (l.take k).count x ≤ n by rw [← hn]; exact count_take_le l x k)
  have HCN := Lib.hid (fun (x : Int) => show l.count x ≤ n by rw [← hn]; exact List.count_le_length)
  have HN := Lib.hid hn
  have hmm := @run_makeMap Tryz.prog
  have hM0 : CntMap (w.alloc (.map #[] 0)) w.heap.size [] := ⟨0, _, Nat.le_refl _, World.ownsMap_made w _ _ _, ⟨[], rfl⟩, fun x => rfl⟩
  have hb0 : Below w.heap.size w (w.alloc (.map #[] 0)) := (Below.refl _ _).alloc (Nat.le_refl _) _
  clear hr hn hw
  go_enter Tryz.func28, Tryz.ntmps28
  go_wp2
  go_loopw [14] (fun i wr => ∃ k : Nat, k ≤ n ∧ i = .int .i64 k ∧ CntMap wr w.heap.size (l.take k) ∧ Below w.heap.size w wr) (fun i _ => n - (intOf i).toNat)
  case atStart => exact ⟨0, Nat.zero_le _, rfl, hM0, hb0⟩
  case round =>
    clear hmm hM0 hb0
    obtain ⟨k, hk, rfl, hM, hb⟩ := hrel
    by_cases hlt : k < n
    · have hkt : k < l.length := by have := HN.out; omega
      have hi0 : (0 : Int) ≤ (k : Int) := by omega
      have hi1 : (k : Int) < (n : Int) := by omega
      obtain ⟨b, off, rfl, hbl, c0⟩ := HC.out wr hb k hkt
      have hwf := HWF.out k hkt
      have HX := Lib.hid (HT.out k hkt)
      have hcn := HCL.out k l[k]
      generalize l[k] = x at *
      have hlk := cntMap_look hM hwf
      obtain ⟨w2, hrun, hM2, hg2⟩ := cntMap_put hM (HK.out k) hwf
      rw [← HX.out] at hM2
      have hb2 : Below w.heap.size w w2 := hb.grown hg2 hb.size (fun j e => by cases e; exact Nat.le_refl _)
      clear hM hg2 hb
      generalize (l.take k).count x = C at *
      go_wp2
      go_roundw
      case rel => exact ⟨k + 1, by omega, by go_num, hM2, hb2⟩
      case measure => simp [intOf]; omega
    · obtain rfl : k = n := by omega
      have ht : l.take k = l := List.take_of_length_le (by have := HN.out; omega)
      rw [ht] at hM
      clear ht HT HK
      go_wp2
      go_loopw [7, 8, 25] (fun bb mm i wr => ∃ j : Nat, j ≤ k ∧ i = .int .i64 j ∧ bb = .int .i64 (mostP l j).1 ∧ mm = .int .i64 (mostP l j).2 ∧ CntMap wr w.heap.size l ∧ Below w.heap.size w wr) (fun _ _ i _ => k - (intOf i).toNat)
      case atStart => exact ⟨0, Nat.zero_le _, rfl, rfl, rfl, hM, hb⟩
      case round =>
        clear hM hb
        obtain ⟨j, hj, rfl, rfl, rfl, hM, hb⟩ := hrel
        by_cases hlt2 : j < k
        · have hkt : j < l.length := by have := HN.out; omega
          have hi0 : (0 : Int) ≤ (j : Int) := by omega
          have hi1 : (j : Int) < (k : Int) := by omega
          obtain ⟨b, off, rfl, hbl, c0⟩ := HC.out wr hb j hkt
          have hwf := HWF.out j hkt
          have HS := Lib.hid (HP.out j hkt)
          have hMl := HL.out j
          generalize l[j] = x at *
          have hCl := HCN.out x
          have hlk := cntMap_look hM hwf
          have hlk2 := fun q : Nat => cntMap_look (hM.drewN q) hwf
          generalize mostP l j = q at *
          obtain ⟨B, M⟩ := q
          dsimp only at hMl ⊢
          by_cases hgt : M < l.count x
          · have HY : Hid (mostP l (j + 1) = (x, l.count x)) := by unfold Hid; rw [HS.out, if_pos hgt]
            generalize l.count x = C at *
            go_wp2
            go_quiet (fail)
            go_wp2
            go_roundw
            case rel => exact ⟨j + 1, by omega, by go_num, by rw [HY.out], by rw [HY.out], hM.drewN _, below_drewN hb _⟩
            case measure => simp [intOf]; omega
          · have HY : Hid (mostP l (j + 1) = (B, M)) := by unfold Hid; rw [HS.out, if_neg hgt]
            generalize l.count x = C at *
            go_wp2
            go_roundw
            case rel => exact ⟨j + 1, by omega, by go_num, by rw [HY.out], by rw [HY.out], hM, hb⟩
            case measure => simp [intOf]; omega
        · obtain rfl : j = k := by omega
          go_wp2
          go_ret2
          exact ⟨rfl, hb⟩
end Go.Proofs.YtgghnncgeogemaaGreatDoor
