/- the reference's Record, and its Tape: SetCut, Append. -/
import Derived.Test.YtgghnncgeogemaaDoorTapeAct
import Derived.Test.YtgghnncgeogemaaDoorRefText
namespace Go.Proofs.YtgghnncgeogemaaDoor
open Go.RowKit

/-- The reference's tape, in memory. -/
def TapeAt (w : World) (T : Nat) (s : Dk) : Prop := Blok w T 41 #[.string ⟨s.b.toArray⟩, .bool s.off, .int .i64 s.cut]
theorem grownBy_trans {a b c : World} {row : Option Nat} (h : a.grownBy b row) (k : b.grownBy c row) : a.grownBy c row :=
  ⟨k.os.trans h.os, k.tape.trans h.tape, k.output.trans h.output, Nat.le_trans h.size k.size, fun i hi hne => (k.block i (Nat.lt_of_lt_of_le hi h.size) hne).trans (h.block i hi hne)⟩

set_option maxHeartbeats 800000 in
theorem refRecord_any (s : List UInt8) (w : World) (hs : s.length ≤ 100000) :
    Calls Tryd.prog 24 #[.string ⟨s.toArray⟩] w fun e w' => e = .returned (.string ⟨(recB s).toArray⟩) ∧ Below w.heap.size w w' := by
  have KI := Lib.hid (decimal_any (s.length : Nat) w (by omega))
  have hl := itoa_len20 s.length (by omega)
  rw [recB_eq]
  generalize Lib.itoa ((s.length : Nat) : Int) = t at *
  have a1 := run_addt t [58] (by simp; omega)
  have a2 := run_addt (t ++ [58]) s (by simp; omega)
  have a3 := run_addt (t ++ [58] ++ s) [10, 46] (by simp; omega)
  go_enter Tryd.func24, Tryd.ntmps24
  go_wp2_with fail
  refine KI.out.mono ?_
  rintro e w1 ⟨rfl, hb⟩
  go_wp2
  go_ret
  refine ⟨?_, hb⟩
  show Ending.returned (.string ((⟨(t ++ 58 :: s).toArray⟩ : ByteArray) ++ ⟨[10, 46].toArray⟩)) = _
  rw [ba_append]
  simp

theorem refCut_tape (T : Nat) (s : Dk) (n : Int) (w : World) (hT : TapeAt w T s) :
    Calls Tryd.prog 16 #[.pointer (some ⟨T, 0, none⟩), .int .i64 n] w fun e w' => e = .returned (.int .i64 (cutF s n).2) ∧ TapeAt w' T (cutF s n).1 ∧ w.grownBy w' (some T) := by
  obtain ⟨b, o, c⟩ := s
  have hK : Blok w T 41 #[.string ⟨b.toArray⟩, .bool o, .int .i64 c] := hT
  have c1 := hK.cell 1 rfl
  have c2 := hK.cell 2 rfl
  have q2 := hK.frozen 2
  by_cases h : n < 0
  · have hF : cutF ⟨b, o, c⟩ n = (⟨b, o, c⟩, 2) := by rw [cutF, if_pos h]
    rw [hF]
    go_enter Tryd.func16, Tryd.ntmps16
    go_wp2
    go_ret
    exact ⟨rfl, hT, World.grownBy.refl _ _⟩
  · have hd : decide (n < 0) = false := decide_eq_false h
    cases o
    · have hF : cutF ⟨b, false, c⟩ n = (⟨b, false, n⟩, 0) := by rw [cutF, if_neg h]; rfl
      rw [hF]
      go_enter Tryd.func16, Tryd.ntmps16
      go_wp2
      go_ret
      exact ⟨rfl, by have := hK.set 2 (.int .i64 n); simpa [TapeAt] using this, setCell_grows _ _ _ _⟩
    · have hF : cutF ⟨b, true, c⟩ n = (⟨b, true, c⟩, 11) := by rw [cutF, if_neg h]; rfl
      rw [hF]
      go_enter Tryd.func16, Tryd.ntmps16
      go_wp2
      go_ret
      exact ⟨rfl, hT, World.grownBy.refl _ _⟩

set_option maxRecDepth 100000 in
set_option maxHeartbeats 1600000 in
theorem refAppend_tape (T : Nat) (s : Dk) (t : List UInt8) (w : World) (hT : TapeAt w T s) (ht : t.length ≤ 100000) (hbl : s.b.length ≤ 262144) (hc : -9223372036854775808 ≤ s.cut ∧ s.cut ≤ 9223372036854775807) :
    Calls Tryd.prog 15 #[.pointer (some ⟨T, 0, none⟩), .string ⟨t.toArray⟩] w fun e w' => e = .returned (.int .i64 (apF s t).2) ∧ TapeAt w' T (apF s t).1 ∧ w.grownBy w' (some T) := by
  have KR := Lib.hid (refRecord_any t w ht)
  have hrl := recB_le t (by omega)
  obtain ⟨b, o, c⟩ := s
  have hbl : b.length ≤ 262144 := hbl
  have hc : -9223372036854775808 ≤ c ∧ c ≤ 9223372036854775807 := hc
  have hK : Blok w T 41 #[.string ⟨b.toArray⟩, .bool o, .int .i64 c] := hT
  by_cases h1 : 4000 < t.length
  · have hF : apF ⟨b, o, c⟩ t = (⟨b, o, c⟩, 2) := by rw [apF, if_pos h1]
    rw [hF]
    have d1 : decide ((4000 : Int) < (t.length : Int)) = true := decide_eq_true (by omega)
    clear KR
    go_enter Tryd.func15, Tryd.ntmps15
    go_wp2
    go_ret
    exact ⟨rfl, hT, World.grownBy.refl _ _⟩
  · have d1 : decide ((4000 : Int) < (t.length : Int)) = false := decide_eq_false (by omega)
    by_cases h2 : 262144 < b.length + (recB t).length
    · have hF : apF ⟨b, o, c⟩ t = (⟨b, o, c⟩, 7) := by rw [apF, if_neg h1, if_pos h2]
      rw [hF]
      generalize recB t = r at *
      have d2 : decide ((262144 : Int) < (b.length : Int) + (r.length : Int)) = true := decide_eq_true (by omega)
      go_enter Tryd.func15, Tryd.ntmps15
      go_wp2_with fail
      refine KR.out.mono ?_
      rintro e w1 ⟨rfl, hb1⟩
      have hK1 := hK.kept hb1
      have c0 := hK1.cell 0 rfl
      go_wp2
      go_ret
      exact ⟨rfl, hK1, below_grows hb1 _⟩
    · have hF : apF ⟨b, o, c⟩ t = wrF ⟨b, o, c⟩ (recB t) := by rw [apF, if_neg h1, if_neg h2]
      rw [hF]
      generalize recB t = r at *
      have d2 : decide ((262144 : Int) < (b.length : Int) + (r.length : Int)) = false := decide_eq_false (by omega)
      cases o
      · by_cases h0 : 0 ≤ c
        · have d3 : decide (0 ≤ c) = true := decide_eq_true h0
          by_cases h3 : c < r.length
          · have hW : wrF ⟨b, false, c⟩ r = (⟨b ++ r.take c.toNat, true, c⟩, 11) := by rw [wrF]; simp [h0, h3]
            rw [hW]
            have d4 : decide (c < (r.length : Int)) = true := decide_eq_true h3
            have hx : ∀ W : World, (Instr.slice 9 (.string ⟨r.toArray⟩) none (some (.int .i64 c)) none).run Tryd.prog W = .ok (.string ⟨(r.take c.toNat).toArray⟩) W := fun W => by
              rw [run_slice_string_h W 9 ⟨r.toArray⟩ Tryd.underlying9 .i64 c h0 (by show c ≤ (r.length : Int); omega)]
              congr 2
              apply ByteArray.ext; apply Array.ext'; simp
            have a1 := run_addt b (r.take c.toNat) (by rw [List.length_take]; omega)
            generalize r.take c.toNat = rt at *
            go_enter Tryd.func15, Tryd.ntmps15
            go_wp2_with fail
            refine KR.out.mono ?_
            rintro e w1 ⟨rfl, hb1⟩
            have hK1 := hK.kept hb1
            have c0 := hK1.cell 0 rfl
            have c1 := hK1.cell 1 rfl
            have c2 := hK1.cell 2 rfl
            have q0 := hK1.frozen 0
            have q1 := hK1.frozen 1
            go_wp2
            go_region
            all_goals
              go_wp2
              go_ret
              refine ⟨rfl, ?_, grownBy_trans (below_grows hb1 _) (grownBy_trans (grownBy_trans (below_grows (below_drewN (Below.refl w1.heap.size w1) 1) (some T)) (setCell_grows _ _ _ _)) (setCell_grows _ _ _ _))⟩
              have h5 := (hK1.set 0 (.string ⟨(b ++ rt).toArray⟩)).set 1 (.bool true)
              have h6 : Blok ((w1.setCell ⟨T, 0, none⟩ (.string ⟨(b ++ rt).toArray⟩)).setCell ⟨T, 1, none⟩ (.bool true)) T 41 #[.string ⟨(b ++ rt).toArray⟩, .bool true, .int .i64 c] := by simpa using h5
              exact h6
          · have hW : wrF ⟨b, false, c⟩ r = (⟨b ++ r, false, c - r.length⟩, 0) := by rw [wrF]; simp [h0, h3]
            rw [hW]
            have d4 : decide (c < (r.length : Int)) = false := decide_eq_false h3
            have a1 := run_addt b r (by omega)
            go_enter Tryd.func15, Tryd.ntmps15
            go_wp2_with fail
            refine KR.out.mono ?_
            rintro e w1 ⟨rfl, hb1⟩
            have hK1 := hK.kept hb1
            have c0 := hK1.cell 0 rfl
            have c1 := hK1.cell 1 rfl
            have c2 := hK1.cell 2 rfl
            have q0 := hK1.frozen 0
            have q2 := hK1.frozen 2
            go_wp2
            go_ret
            refine ⟨rfl, ?_, grownBy_trans (below_grows hb1 _) (grownBy_trans (setCell_grows _ _ _ _) (setCell_grows _ _ _ _))⟩
            have := (hK1.set 2 (.int .i64 (c - r.length))).set 0 (.string ⟨(b ++ r).toArray⟩)
            simpa [TapeAt] using this
        · have d3 : decide (0 ≤ c) = false := decide_eq_false h0
          have hW : wrF ⟨b, false, c⟩ r = (⟨b ++ r, false, c⟩, 0) := by rw [wrF]; simp [h0]
          rw [hW]
          have a1 := run_addt b r (by omega)
          go_enter Tryd.func15, Tryd.ntmps15
          go_wp2_with fail
          refine KR.out.mono ?_
          rintro e w1 ⟨rfl, hb1⟩
          have hK1 := hK.kept hb1
          have c0 := hK1.cell 0 rfl
          have c1 := hK1.cell 1 rfl
          have c2 := hK1.cell 2 rfl
          have q0 := hK1.frozen 0
          go_wp2
          go_ret
          refine ⟨rfl, ?_, grownBy_trans (below_grows hb1 _) (setCell_grows _ _ _ _)⟩
          have := hK1.set 0 (.string ⟨(b ++ r).toArray⟩)
          simpa [TapeAt] using this
      · have hW : wrF ⟨b, true, c⟩ r = (⟨b, true, c⟩, 11) := by rw [wrF]; rfl
        rw [hW]
        go_enter Tryd.func15, Tryd.ntmps15
        go_wp2_with fail
        refine KR.out.mono ?_
        rintro e w1 ⟨rfl, hb1⟩
        have hK1 := hK.kept hb1
        have c0 := hK1.cell 0 rfl
        have c1 := hK1.cell 1 rfl
        go_wp2
        go_ret
        exact ⟨rfl, hK1, below_grows hb1 _⟩
end Go.Proofs.YtgghnncgeogemaaDoor
