/- ModeGoes: the closed fact, the law's walk. -/
import Derived.Test.YtmikeblbfmfimaaDoorModeNew
import Derived.Test.YtmikeblbfmfimaaDoorCoded
namespace Go.Proofs.YtmikeblbfmfimaaDoor
open Go.RowKit Go.Maps

set_option maxRecDepth 100000 in
set_option maxHeartbeats 1600000 in
theorem moded_any (ea : Nat → Addr) (w : World) (hG : GlobC w ea) :
    Calls Tryd.prog 53 #[] w fun e w' => e = .returned (.bool true) ∧ Below w.heap.size w w' := by
  have hb0 : Below w.heap.size w (w.alloc (.cells (encPairs [(0, 2)]).toArray 126)) := (Below.refl _ _).alloc (Nat.le_refl _) _
  have C1 := Lib.hid (new_any ea (some ⟨w.heap.size, 0, none⟩) 1 1 [(0, 2)] _ ((hG.below hb0).sub (by simp)) rfl (RowAt.new_at w (encPairs [(0, 2)]) 126 _ rfl) (by omega))
  have HG := Lib.hid hG
  have HB0 := Lib.hid hb0
  clear hG hb0
  go_enter Tryd.func53, Tryd.ntmps53
  go_wp2_with fail
  refine C1.out.mono ?_
  rintro e w1 (⟨hl, b, rfl, hbb, hB, hb1⟩ | ⟨i, hi, hp, _⟩)
  · have hw1 : Below w.heap.size w w1 := HB0.out.trans (hb1.mono (by simp))
    have hbw : w.heap.size ≤ b := by simp at hbb; omega
    have HBW := Lib.hid hw1
    have HL := Lib.hid hl
    have HBB := Lib.hid hbw
    clear hb1 hw1 hbb hl hbw
    have HB := Lib.hid hB
    clear hB
    go_wp2_with fail
    refine (ask_any ea b [(0, 2)] 0 (-1) 1 _ ((HG.out.below HBW.out).sub (by simp)) HB.out HL.out rfl (Or.inl rfl)).mono ?_
    rintro e w2 ⟨rfl, hB2, hb2, hz2⟩
    rw [askTo_no (c := 2) (by decide)] at hB2
    rw [show askE [(0, 2)] 0 (-1) 1 = 3 by decide]
    have HB2 := Lib.hid hB2
    have HBW2 := Lib.hid (HBW.out.trans (hb2.mono HBB.out))
    clear hB2 hb2 hz2
    go_wp2_with fail
    refine (ask_any ea b [(0, 2)] 0 (-1) 2 _ ((HG.out.below HBW2.out).sub (by simp)) HB2.out HL.out rfl (Or.inl rfl)).mono ?_
    rintro e w3 ⟨rfl, hB3, hb3, hz3⟩
    rw [askTo_ok (by decide)] at hB3
    rw [show askE [(0, 2)] 0 (-1) 2 = 0 by decide]
    rw [errV_zero]
    have HB3 := Lib.hid hB3
    have HBW3 := Lib.hid (HBW2.out.trans (hb3.mono HBB.out))
    clear hB3 hb3 hz3
    go_wp2_with fail
    refine (coded2_any ea _ 3 (-1) 3 _ (HG.out.below HBW3.out) (ErrIs.bare ea _ 3) (by omega)).mono ?_
    rintro e w4 ⟨rfl, hb4⟩
    rw [decide_eq_true (⟨rfl, rfl⟩ : ((3 : Nat) : Int) = 3 ∧ (-1 : Int) = -1)]
    have HB4 := Lib.hid (HB3.out.below hb4)
    have HBW4 := Lib.hid (HBW3.out.trans (hb4.mono HBW3.out.size))
    clear hb4
    go_wp2_with fail
    refine (now_any b _ _ _ _ HB4.out).mono ?_
    rintro e w5 ⟨rfl, rfl⟩
    go_wp2_with fail
    refine (asked_any b _ _ _ _ HB4.out).mono ?_
    rintro e w5 ⟨rfl, rfl⟩
    go_wp2_with fail
    refine (turn_any b _ _ _ _ HB4.out (Or.inr (by omega))).mono ?_
    rintro e w6 ⟨rfl, _, hb6, _⟩
    rw [show turnNow 0 2 = 2 by decide]
    go_wp2
    go_ret
    exact ⟨rfl, HBW4.out.trans (hb6.mono HBB.out)⟩
  · exfalso
    have h0 : i = 0 := by simp at hi; omega
    subst h0
    simp [pairB, modeB] at hp

/-- A board's state that a law keeps. -/
def Kept (l : List (Int × Int)) (now asked : Int) : Prop := modeB now = true ∧ (asked = -1 ∨ (0 ≤ asked ∧ modeB asked = true ∧ (now, asked) ∈ l))
theorem kept_ask {l : List (Int × Int)} {now asked to : Int} (h : Kept l now asked) : Kept l now (askTo l now asked to) := by
  unfold askTo
  split
  · rename_i h0
    unfold askE at h0
    split at h0
    · simp at h0
    · rename_i hm
      split at h0
      · simp at h0
      · split at h0
        · rename_i hin
          have hm' : modeB to = true := by simpa using hm
          exact ⟨h.1, Or.inr ⟨by simp only [modeB, decide_eq_true_eq] at hm'; exact hm'.1, hm', hin⟩⟩
        · simp at h0
  · exact h
theorem kept_turn {l : List (Int × Int)} {now asked : Int} (h : Kept l now asked) : Kept l (turnNow now asked) (-1) := by
  refine ⟨?_, Or.inl rfl⟩
  rcases h.2 with rfl | ⟨h1, h2, _⟩
  · rw [turnNow, if_neg (by omega)]; exact h.1
  · rw [turnNow, if_pos h1]; exact h2

def isPair (was n : Int) (p : Int × Int) : Bool := p.1 == was && p.2 == n
theorem any_snoc (was n : Int) (l : List (Int × Int)) (k : Nat) (hk : k < l.length) : (l.take (k + 1)).any (isPair was n) = ((l.take k).any (isPair was n) || isPair was n l[k]) := by
  rw [List.take_succ_eq_append_getElem hk, List.any_append]; simp

end Go.Proofs.YtmikeblbfmfimaaDoor
