/- Names: the law's walk. -/
import Derived.Test.YtmikeblbfmfimaaDoorSameInts
import Derived.Test.YtmikeblbfmfimaaDoorCoded
namespace Go.Proofs.YtmikeblbfmfimaaDoor
open Go.RowKit

def nmL : List Int := [16, 32, 1000000, 1048576, 4, 200, 4000, 262144, 80, 16]

theorem errNew_any (s : ByteArray) (w : World) :
    Calls Tryd.prog 13 #[.string s] w fun e w' => e = .returned (.iface 109 (.pointer (some ⟨w.heap.size, 0, none⟩))) ∧ w.alloc (.cells #[.string s] 111) = w' := by
  go_enter Tryd.func13, Tryd.ntmps13
  go_wp2
  go_ret
  exact ⟨rfl, rfl⟩

set_option maxRecDepth 100000 in
set_option maxHeartbeats 1600000 in
theorem walk_Names (ea : Nat → Addr) (w : World) (hG : GlobC w ea) :
    Calls Tryd.prog 3 #[] w fun e w' => e = .returned (.bool true) ∧ Below w.heap.size w w' := by
  have HG := Lib.hid hG
  clear hG
  go_enter Tryd.func3, Tryd.ntmps3
  go_wp2_with fail
  have r1 : RowAt (w.alloc (.cells (encInts nmL).toArray 3)) (some ⟨w.heap.size, 0, none⟩) (encInts nmL) := RowAt.new_at _ _ _ _ rfl
  have r2 : RowAt ((w.alloc (.cells (encInts nmL).toArray 3)).alloc (.cells (encInts nmL).toArray 3)) (some ⟨w.heap.size + 1, 0, none⟩) (encInts nmL) := RowAt.new_at _ _ _ _ (by simp)
  refine (sameInts_any (some ⟨w.heap.size, 0, none⟩) (some ⟨w.heap.size + 1, 0, none⟩) 10 10 10 10 nmL nmL _ rfl (r1.below ((Below.refl _ _).alloc (Nat.le_refl _) _)) rfl r2 (by omega)).mono ?_
  rintro e w1 ⟨rfl, hb1⟩
  have hw1 : Below w.heap.size w w1 := (((Below.refl _ _).alloc (Nat.le_refl _) _).alloc (by simp) _).trans (hb1.mono (by simp; omega))
  rw [decide_eq_true rfl]
  clear r1 r2 hb1
  have g1 := (HG.out.glob.below hw1).cell 1 (by simp)
  have g2 := (HG.out.glob.below hw1).cell 2 (by simp)
  have g3 := (HG.out.glob.below hw1).cell 3 (by simp)
  have g4 := (HG.out.glob.below hw1).cell 4 (by simp)
  have g5 := (HG.out.glob.below hw1).cell 5 (by simp)
  have g6 := (HG.out.glob.below hw1).cell 6 (by simp)
  have g7 := (HG.out.glob.below hw1).cell 7 (by simp)
  have g8 := (HG.out.glob.below hw1).cell 8 (by simp)
  have g9 := (HG.out.glob.below hw1).cell 9 (by simp)
  have g10 := (HG.out.glob.below hw1).cell 10 (by simp)
  have g11 := (HG.out.glob.below hw1).cell 11 (by simp)
  simp only [gOf] at g1 g2 g3 g4 g5 g6 g7 g8 g9 g10 g11
  rw [errV_pos ea (by decide)] at g1
  rw [errV_pos ea (by decide)] at g2
  rw [errV_pos ea (by decide)] at g3
  rw [errV_pos ea (by decide)] at g4
  rw [errV_pos ea (by decide)] at g5
  rw [errV_pos ea (by decide)] at g6
  rw [errV_pos ea (by decide)] at g7
  rw [errV_pos ea (by decide)] at g8
  rw [errV_pos ea (by decide)] at g9
  rw [errV_pos ea (by decide)] at g10
  rw [errV_pos ea (by decide)] at g11
  go_wp2
  clear g1 g2 g3 g4 g5 g6 g7 g8 g9 g10 g11
  have hb3 : Below w.heap.size w (w1.alloc (.cells (errsL ea).toArray 25)) := hw1.alloc hw1.size _
  have hcell := Lib.hid (fun (k : Nat) (hk : k < 11) => (RowAt.new_at w1 (errsL ea) 25 _ rfl).cell (errsL_get ea k hk))
  have hsz3 : w1.heap.size < (w1.alloc (.cells (errsL ea).toArray 25)).heap.size := by simp
  change Code.wp _ _ _ _ (w1.alloc (.cells (errsL ea).toArray 25))
  generalize w1.alloc (.cells (errsL ea).toArray 25) = w3 at *
  go_loopw [4] (fun i wr => ∃ k : Nat, k ≤ 11 ∧ i = .int .i64 k ∧ Below w3.heap.size w3 wr) (fun i _ => 11 - (intOf i).toNat)
  case atStart => exact ⟨0, by omega, rfl, Below.refl _ _⟩
  case round =>
    obtain ⟨k, hk, rfl, hb⟩ := hrel
    have hbw := hb3.trans (hb.mono hb3.size)
    have hsz := hb.size
    by_cases hlt : k < 11
    · have hi0 : (0 : Int) ≤ (k : Int) := by omega
      have hi1 : (k : Int) < 11 := by omega
      have c0 := (hb.cell (p := ⟨w1.heap.size, 0 + k, none⟩) hsz3).trans (hcell.out k hlt)
      simp only [Nat.zero_add] at c0
      have C1 := Lib.hid (code_flt ea wr.heap.size 7 (k + 1) (wr.alloc (.cells #[.int .i64 7, errV ea (k + 1)] 31)) (HG.out.below (hbw.alloc hbw.size _)) (by omega) (by omega) (by simp) (by omega) (by simp) (by simp))
      have C2 := Lib.hid (fun (W : World) (h : Below w.heap.size w W) => coded1_yes ea (errV ea (k + 1)) (k + 1) (k + 1 : Int) W (HG.out.below h) (ErrIs.bare ea W (k + 1)) (by omega) (by omega))
      rw [show ((k + 1 : Nat) : Int) = (k : Int) + 1 by omega] at C1
      rw [errV_pos ea (show k + 1 ≠ 0 by omega)] at c0 C1 C2
      go_wp2_with fail
      refine C1.out.mono ?_
      rintro e w4 ⟨rfl, hb4⟩
      have hb5 : Below w3.heap.size w3 w4 := (hb.alloc hsz _).trans (hb4.mono (by simp; omega))
      have hbw5 := hb3.trans (hb5.mono hb3.size)
      have c5 := ((hb4.cell (p := ⟨w1.heap.size, k, none⟩) (by simp; omega)).trans (World.cell?_alloc_lt _ _ ⟨w1.heap.size, k, none⟩ (by show w1.heap.size < wr.heap.size; omega))).trans c0
      clear hb4 c0
      go_wp2_with fail
      refine (C2.out _ hbw5).mono ?_
      rintro e w6 ⟨rfl, hb6⟩
      go_wp2
      go_roundw
      case rel => exact ⟨k + 1, by omega, by go_num, hb5.trans (hb6.mono hb5.size)⟩
      case measure => simp [intOf]; omega
    · have hnew : ∀ W : World, Below w.heap.size w W → Hid (∀ k, k < 11 → ∀ W', Below (W.alloc (.cells #[.string { data := #[97, 110, 111, 116, 104, 101, 114, 32, 111, 110, 101] }] 111)).heap.size (W.alloc (.cells #[.string { data := #[97, 110, 111, 116, 104, 101, 114, 32, 111, 110, 101] }] 111)) W' → Calls Tryd.prog 66 #[.iface 109 (.pointer (some ⟨W.heap.size, 0, none⟩)), errV ea (k + 1)] W' fun e w' => e = .returned (.bool (decide (k + 1 = 12))) ∧ W' = w') := by
        intro W hW
        unfold Hid
        intro k hk W' hW'
        obtain ⟨ca, ta, hca⟩ := (HG.out.below hW).cells (k + 1) (by omega) (by omega)
        have hlt2 : (ea (k + 1)).block < W.heap.size := (Array.getElem?_eq_some_iff.1 hca).1
        have hca' : W'.heap[(ea (k + 1)).block]? = some (.cells ca ta (0, 0)) := by
          rw [hW'.block _ (by simp; omega), ← hca]
          exact ((Below.refl W.heap.size W).alloc (Nat.le_refl _) _).block _ hlt2
        have hne : W'.heap[W.heap.size]? = some (.cells #[.string { data := #[97, 110, 111, 116, 104, 101, 114, 32, 111, 110, 101] }] 111 (0, 0)) := by
          rw [hW'.block _ (by simp)]; exact heap_alloc_new W _
        rw [errV_pos ea (show k + 1 ≠ 0 by omega), decide_eq_false (by omega)]
        exact (is_other ⟨W.heap.size, 0, none⟩ (ea (k + 1)) _ _ _ _ W' (fun e => by rw [← e] at hlt2; simp at hlt2) hne hca').mono fun e w' ⟨h1, h2⟩ => ⟨h1, h2.symm⟩
      have C3 := Lib.hid (code_gen ea ⟨wr.heap.size, 0, none⟩ 12 (wr.alloc (.cells #[.string { data := #[97, 110, 111, 116, 104, 101, 114, 32, 111, 110, 101] }] 111)) (HG.out.below (hbw.alloc hbw.size _)) (by omega) (hnew wr hbw))
      clear hnew
      go_wp2_with fail
      refine (errNew_any _ _).mono ?_
      rintro e w9 ⟨rfl, rfl⟩
      go_wp2_with fail
      refine C3.out.mono ?_
      rintro e w4 ⟨rfl, hb4⟩
      have hb5 := (hbw.alloc hbw.size (.cells #[.string { data := #[97, 110, 111, 116, 104, 101, 114, 32, 111, 110, 101] }] 111)).trans (hb4.mono (by have := hbw.size; simp; omega))
      rw [show codeV 12 = -1 from rfl]
      go_wp2_with fail
      refine (coded1_yes ea .nilIface 0 0 _ (HG.out.below hb5) (Or.inl ⟨rfl, (errV_zero ea).symm⟩) (by omega) rfl).mono ?_
      rintro e w6 ⟨rfl, hb6⟩
      go_wp2
      go_ret
      exact ⟨rfl, hb5.trans (hb6.mono hb5.size)⟩
end Go.Proofs.YtmikeblbfmfimaaDoor
