/- mode: New, Ask, Turn, Now, Asked. -/
import Derived.Test.YtmikeblbfmfimaaDoorModeMap
import Derived.StillTailTactics
import Derived.BigQuiet
import Derived.Deep.QuietTactic
import Derived.Maps.AppendAt
namespace Go.Proofs.YtmikeblbfmfimaaDoor
open Go.RowKit Go.Maps

theorem mode_any (n : Int) (w : World) : Calls Tryd.prog 81 #[.int .i64 n] w fun e w' => e = .returned (.bool (modeB n)) ∧ w = w' := by
  by_cases h0 : 0 ≤ n
  · by_cases h1 : n < 4
    · have hm := Lib.hid (show modeB n = true by simp [modeB, h0, h1])
      go_enter Tryd.func81, Tryd.ntmps81
      go_wp2
      go_ret
      exact ⟨ret_bool hm.out.symm, rfl⟩
    · have hm := Lib.hid (show modeB n = false by simp [modeB]; omega)
      have hd : decide (n < 4) = false := by simpa using h1
      go_enter Tryd.func81, Tryd.ntmps81
      go_wp2
      go_ret
      exact ⟨ret_bool hm.out.symm, rfl⟩
  · have hm := Lib.hid (show modeB n = false by simp [modeB]; omega)
    have hd : decide (0 ≤ n) = false := by simpa using h0
    go_enter Tryd.func81, Tryd.ntmps81
    go_wp2
    go_ret
    exact ⟨ret_bool hm.out.symm, rfl⟩

/-- A board at block b: its pairs, its mode, what is asked for. -/
def BoardM (w : World) (b mb : Nat) (l : List (Int × Int)) (now asked : Int) : Prop :=
  w.heap[b]? = some (.cells #[.map (some mb), .int .i64 now, .int .i64 asked] 129 (0, 0)) ∧ mb ≠ b ∧ PairMap w mb l
def BoardAt (w : World) (b : Nat) (l : List (Int × Int)) (now asked : Int) : Prop := ∃ mb, BoardM w b mb l now asked
theorem BoardM.drewN {w : World} {b mb : Nat} {l : List (Int × Int)} {now asked : Int} (h : BoardM w b mb l now asked) (n : Nat) : BoardM (w.drewN n) b mb l now asked := h
theorem BoardM.kept {w w' : World} {b mb : Nat} {l : List (Int × Int)} {now asked : Int} (h : BoardM w b mb l now asked) {row : Option Nat} (hg : w.grownBy w' row) (hb : some b ≠ row) (hm : some mb ≠ row) : BoardM w' b mb l now asked :=
  ⟨(hg.block b (Array.getElem?_eq_some_iff.1 h.1).1 hb).trans h.1, h.2.1, h.2.2.kept hg hm⟩
theorem BoardAt.lt {w : World} {b : Nat} {l : List (Int × Int)} {now asked : Int} (h : BoardAt w b l now asked) : b < w.heap.size := by
  obtain ⟨mb, h, _⟩ := h; exact (Array.getElem?_eq_some_iff.1 h).1
theorem BoardAt.below {w w' : World} {b : Nat} {l : List (Int × Int)} {now asked : Int} (h : BoardAt w b l now asked) (hb : Below w.heap.size w w') : BoardAt w' b l now asked := by
  obtain ⟨mb, h1, h2, h3⟩ := h
  exact ⟨mb, (hb.block b (Array.getElem?_eq_some_iff.1 h1).1).trans h1, h2, h3.kept (below_grows hb none) (by simp)⟩
theorem BoardAt.drewN {w : World} {b : Nat} {l : List (Int × Int)} {now asked : Int} (h : BoardAt w b l now asked) (n : Nat) : BoardAt (w.drewN n) b l now asked := h
theorem PairMap.drewN {w : World} {mb : Nat} {l : List (Int × Int)} (h : PairMap w mb l) (n : Nat) : PairMap (w.drewN n) mb l := h

theorem now_any (b : Nat) (l : List (Int × Int)) (now asked : Int) (w : World) (h : BoardAt w b l now asked) :
    Calls Tryd.prog 62 #[.pointer (some ⟨b, 0, none⟩)] w fun e w' => e = .returned (.int .i64 now) ∧ w = w' := by
  obtain ⟨mb, h1, _, _⟩ := h
  have c1 : w.cell? ⟨b, 1, none⟩ = some (.int .i64 now) := cell_of_row w b 1 _ _ _ h1
  clear h1
  go_enter Tryd.func62, Tryd.ntmps62
  go_wp2
  go_ret
  exact ⟨rfl, rfl⟩
theorem asked_any (b : Nat) (l : List (Int × Int)) (now asked : Int) (w : World) (h : BoardAt w b l now asked) :
    Calls Tryd.prog 63 #[.pointer (some ⟨b, 0, none⟩)] w fun e w' => e = .returned (.int .i64 asked) ∧ w = w' := by
  obtain ⟨mb, h1, _, _⟩ := h
  have c2 : w.cell? ⟨b, 2, none⟩ = some (.int .i64 asked) := cell_of_row w b 2 _ _ _ h1
  clear h1
  go_enter Tryd.func63, Tryd.ntmps63
  go_wp2
  go_ret
  exact ⟨rfl, rfl⟩

/-- Turn: what is asked for is the mode. -/
def turnNow (now asked : Int) : Int := if 0 ≤ asked then asked else now
theorem turn_m (b mb : Nat) (l : List (Int × Int)) (now asked : Int) (w : World) (h : BoardM w b mb l now asked) (hk : asked = -1 ∨ 0 ≤ asked) :
    Calls Tryd.prog 57 #[.pointer (some ⟨b, 0, none⟩)] w fun e w' => e = .returned (.int .i64 (turnNow now asked)) ∧ BoardM w' b mb l (turnNow now asked) (-1) ∧ w.grownBy w' (some b) ∧ Below b w w' ∧ w'.heap.size = w.heap.size := by
  obtain ⟨h1, h2, h3⟩ := h
  have c1 : w.cell? ⟨b, 1, none⟩ = some (.int .i64 now) := cell_of_row w b 1 _ _ _ h1
  have c2 : w.cell? ⟨b, 2, none⟩ = some (.int .i64 asked) := cell_of_row w b 2 _ _ _ h1
  have f1 : w.frozen? ⟨b, 1, none⟩ = false := frozen_of_row w b 1 _ _ h1
  have f2 : w.frozen? ⟨b, 2, none⟩ = false := frozen_of_row w b 2 _ _ h1
  have H1 := Lib.hid h1
  clear h1
  by_cases hq : 0 ≤ asked
  · have ht := Lib.hid (show turnNow now asked = asked by rw [turnNow, if_pos hq])
    have d2 : (w.setCell ⟨b, 1, none⟩ (.int .i64 asked)).cell? ⟨b, 2, none⟩ = some (.int .i64 asked) := by go_simp
    have hB : BoardM ((w.setCell ⟨b, 1, none⟩ (.int .i64 asked)).setCell ⟨b, 2, none⟩ (.int .i64 (-1))) b mb l asked (-1) := by
      refine ⟨?_, h2, (h3.kept (setCell_grows _ _ _ _) (by simp [h2])).kept (setCell_grows _ _ _ _) (by simp [h2])⟩
      rw [heap_setCell_same _ b 2 _ _ _ (heap_setCell_same w b 1 _ _ _ H1.out)]; rfl
    have HB := Lib.hid hB
    clear hB
    go_enter Tryd.func57, Tryd.ntmps57
    go_wp2
    go_ret
    rw [ht.out]
    exact ⟨rfl, HB.out, (setCell_grows _ _ _ _).trans (setCell_grows _ _ _ _), ((Below.refl _ _).setCell (by simp) _).setCell (by simp) _, by simp⟩
  · have ht := Lib.hid (show turnNow now asked = now by rw [turnNow, if_neg hq])
    obtain rfl : asked = -1 := by omega
    have hB := Lib.hid (show BoardM w b mb l now (-1) from ⟨H1.out, h2, h3⟩)
    go_enter Tryd.func57, Tryd.ntmps57
    go_wp2
    go_ret
    rw [ht.out]
    exact ⟨rfl, hB.out, World.grownBy.refl _ _, Below.refl _ _, rfl⟩

theorem turn_any (b : Nat) (l : List (Int × Int)) (now asked : Int) (w : World) (h : BoardAt w b l now asked) (hk : asked = -1 ∨ 0 ≤ asked) :
    Calls Tryd.prog 57 #[.pointer (some ⟨b, 0, none⟩)] w fun e w' => e = .returned (.int .i64 (turnNow now asked)) ∧ BoardAt w' b l (turnNow now asked) (-1) ∧ Below b w w' ∧ w'.heap.size = w.heap.size := by
  obtain ⟨mb, h⟩ := h
  exact (turn_m b mb l now asked w h hk).mono fun e w' ⟨h1, h2, _, h4, h5⟩ => ⟨h1, ⟨mb, h2⟩, h4, h5⟩

/-- Ask: its error. -/
def askE (l : List (Int × Int)) (now asked to : Int) : Nat := if modeB to = false then 2 else if 0 ≤ asked then 6 else if (now, to) ∈ l then 0 else 3

/-- What is asked for behind it. -/
def askTo (l : List (Int × Int)) (now asked to : Int) : Int := if askE l now asked to = 0 then to else asked
theorem askTo_ok {l : List (Int × Int)} {now asked to : Int} (h : askE l now asked to = 0) : askTo l now asked to = to := if_pos h
theorem askTo_no {l : List (Int × Int)} {now asked to : Int} {c : Nat} (h : askE l now asked to = c + 1) : askTo l now asked to = asked := if_neg (by omega)

set_option maxRecDepth 100000 in
set_option maxHeartbeats 800000 in
theorem ask_m (ea : Nat → Addr) (b mb : Nat) (l : List (Int × Int)) (now asked to : Int) (w : World) (hg : Glob w ea [2, 6, 3]) (h : BoardM w b mb l now asked) (hl : ∀ p ∈ l, pairB p = true) (hn : modeB now = true) (hk : asked = -1 ∨ 0 ≤ asked) :
    Calls Tryd.prog 60 #[.pointer (some ⟨b, 0, none⟩), .int .i64 to] w fun e w' => e = .returned (errV ea (askE l now asked to)) ∧ BoardM w' b mb l now (askTo l now asked to) ∧ w.grownBy w' (some b) ∧ Below b w w' ∧ w'.heap.size = w.heap.size := by
  have g2 := hg.cell 2 (by simp)
  have g6 := hg.cell 6 (by simp)
  have g3 := hg.cell 3 (by simp)
  simp only [gOf] at g2 g6 g3
  have HB := Lib.hid h
  obtain ⟨h1, h2, h3⟩ := h
  have c0 : w.cell? ⟨b, 0, none⟩ = some (.map (some mb)) := cell_of_row w b 0 _ _ _ h1
  have c1 : w.cell? ⟨b, 1, none⟩ = some (.int .i64 now) := cell_of_row w b 1 _ _ _ h1
  have c2 : w.cell? ⟨b, 2, none⟩ = some (.int .i64 asked) := cell_of_row w b 2 _ _ _ h1
  have f2 : w.frozen? ⟨b, 2, none⟩ = false := frozen_of_row w b 2 _ _ h1
  have H1 := Lib.hid h1
  clear h1
  cases hm : modeB to
  · have HA := Lib.hid (show askE l now asked to = 2 by rw [askE, if_pos hm])
    have HM := Lib.hid hm
    clear hm hk
    go_enter Tryd.func60, Tryd.ntmps60
    go_wp2_with (go_at_call 81; refine (mode_any _ _).mono ?_; rintro e w1 ⟨rfl, rfl⟩; rw [HM.out])
    go_ret
    rw [HA.out, askTo_no HA.out]
    exact ⟨rfl, HB.out, World.grownBy.refl _ _, Below.refl _ _, rfl⟩
  · have HM := Lib.hid hm
    by_cases hq : 0 ≤ asked
    · have HA := Lib.hid (show askE l now asked to = 6 by rw [askE, if_neg (by simp [hm]), if_pos hq])
      clear hm hk
      go_enter Tryd.func60, Tryd.ntmps60
      go_wp2_with (go_at_call 81; refine (mode_any _ _).mono ?_; rintro e w1 ⟨rfl, rfl⟩; rw [HM.out])
      go_ret
      rw [HA.out, askTo_no HA.out]
      exact ⟨rfl, HB.out, World.grownBy.refl _ _, Below.refl _ _, rfl⟩
    · obtain rfl : asked = -1 := by omega
      have hlk : ∀ n : Nat, (Instr.lookup 127 (.map (some mb)) (.agg #[.int .i64 now, .int .i64 to]) false).run Tryd.prog (w.drewN n) = .ok (.bool (decide ((now, to) ∈ l))) (w.drewN n) := fun n => pairMap_look (h3.drewN n) hl hn hm
      by_cases hin : (now, to) ∈ l
      · have HA := Lib.hid (show askE l now (-1) to = 0 by rw [askE, if_neg (by simp [hm]), if_neg (by omega), if_pos hin])
        rw [decide_eq_true hin] at hlk
        have hS : ∀ n : Nat, BoardM ((w.drewN n).setCell ⟨b, 2, none⟩ (.int .i64 to)) b mb l now to := fun n => by
          refine ⟨?_, h2, (h3.drewN n).kept (setCell_grows _ _ _ _) (by simp [h2])⟩
          have h1' : (w.drewN n).heap[b]? = some (.cells #[.map (some mb), .int .i64 now, .int .i64 (-1)] 129 (0, 0)) := H1.out
          rw [heap_setCell_same _ b 2 _ _ _ h1']; rfl
        have HS := Lib.hid hS
        clear hm hk hin hS
        go_enter Tryd.func60, Tryd.ntmps60
        go_wp2_with (go_at_call 81; refine (mode_any _ _).mono ?_; rintro e w1 ⟨rfl, rfl⟩; rw [HM.out])
        go_quiet (fail)
        go_wp2
        go_ret
        rw [HA.out, askTo_ok HA.out]
        exact ⟨(nil_errV ea rfl) ▸ rfl, HS.out _, (below_grows (below_drewN (Below.refl _ _) _) _).trans (setCell_grows _ _ _ _), ((below_drewN (Below.refl _ _) _)).setCell (by simp) _, by simp⟩
      · have HA := Lib.hid (show askE l now (-1) to = 3 by rw [askE, if_neg (by simp [hm]), if_neg (by omega), if_neg hin])
        rw [decide_eq_false hin] at hlk
        clear hm hk hin
        go_enter Tryd.func60, Tryd.ntmps60
        go_wp2_with (go_at_call 81; refine (mode_any _ _).mono ?_; rintro e w1 ⟨rfl, rfl⟩; rw [HM.out])
        go_quiet (fail)
        go_wp2
        go_ret
        rw [HA.out, askTo_no HA.out]
        exact ⟨rfl, HB.out.drewN _, below_grows (below_drewN (Below.refl _ _) _) _, below_drewN (Below.refl _ _) _, rfl⟩
theorem ask_any (ea : Nat → Addr) (b : Nat) (l : List (Int × Int)) (now asked to : Int) (w : World) (hg : Glob w ea [2, 6, 3]) (h : BoardAt w b l now asked) (hl : ∀ p ∈ l, pairB p = true) (hn : modeB now = true) (hk : asked = -1 ∨ 0 ≤ asked) :
    Calls Tryd.prog 60 #[.pointer (some ⟨b, 0, none⟩), .int .i64 to] w fun e w' => e = .returned (errV ea (askE l now asked to)) ∧ BoardAt w' b l now (askTo l now asked to) ∧ Below b w w' ∧ w'.heap.size = w.heap.size := by
  obtain ⟨mb, h⟩ := h
  exact (ask_m ea b mb l now asked to w hg h hl hn hk).mono fun e w' ⟨h1, h2, _, h4, h5⟩ => ⟨h1, ⟨mb, h2⟩, h4, h5⟩
end Go.Proofs.YtmikeblbfmfimaaDoor
