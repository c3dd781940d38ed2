/- frame: Check, Sum, natural. -/
import Derived.Test.YtbfocagicagehaaDoorCrewText
namespace Go.Proofs.YtbfocagicagehaaDoor
open Go.RowKit

/-- api.Frame. -/
structure Frm where
  frm : Int
  mem : Int
  mode : Int
  slot : Int
  value : Int
  deriving DecidableEq, Inhabited
def Frm.arr (f : Frm) : Array Value := #[.int .i64 f.frm, .int .i64 f.mem, .int .i64 f.mode, .int .i64 f.slot, .int .i64 f.value]
def viewB (mode slot : Int) : Bool := decide (0 ≤ mode ∧ mode ≤ 3 ∧ 0 ≤ slot ∧ slot ≤ 1000000)
def frameE (f : Frm) : Nat := if nodeB f.frm then (if crewB f.mem then (if hasB f.mem f.frm then (if viewB f.mode f.slot && numB f.value then 0 else 2) else 3) else 2) else 4
theorem frameE_zero {f : Frm} (h : frameE f = 0) : nodeB f.frm = true ∧ crewB f.mem = true ∧ hasB f.mem f.frm = true ∧ viewB f.mode f.slot = true ∧ numB f.value = true := by
  unfold frameE at h
  split at h
  · split at h
    · split at h
      · split at h
        · rename_i h1 h2 h3 h4; rw [Bool.and_eq_true] at h4; exact ⟨h1, h2, h3, h4.1, h4.2⟩
        · omega
      · omega
    · omega
  · omega

set_option maxHeartbeats 1600000 in
theorem frameCheck_any (ea : Nat → Addr) (f1 f2 f3 f4 f5 : Int) (w : World) (hg : Glob w ea [2, 3, 4]) :
    Calls Tryd.prog 47 #[.agg #[.int .i64 f1, .int .i64 f2, .int .i64 f3, .int .i64 f4, .int .i64 f5]] w fun e w' => e = .returned (errV ea (frameE ⟨f1, f2, f3, f4, f5⟩)) ∧ Below w.heap.size w w' := by
  have hb0 : Below w.heap.size w (w.alloc (.cells #[.int .i64 f1, .int .i64 f2, .int .i64 f3, .int .i64 f4, .int .i64 f5] 75)) := (Below.refl _ _).alloc (Nat.le_refl _) _
  have hgb := hg.below hb0
  have g2 := hgb.cell 2 (by simp)
  have g3 := hgb.cell 3 (by simp)
  have g4 := hgb.cell 4 (by simp)
  simp only [gOf] at g2 g3 g4
  have KN := Lib.hid (fun W => node_any f1 W)
  have KC := Lib.hid (crewCheck_any ea f2 _ (hgb.sub (by simp)))
  have KH := Lib.hid (has_any ea f2 f1 _ (hgb.sub (by simp)))
  clear hg hgb
  cases h1 : nodeB f1
  · have HF : Hid (frameE ⟨f1, f2, f3, f4, f5⟩ = 4) := by unfold Hid; simp only [frameE, h1]; rfl
    rw [h1] at KN
    clear h1
    go_enter Tryd.func47, Tryd.ntmps47
    go_wp2_with (go_at_call 29; refine (KN.out _).mono ?_; rintro e w' ⟨rfl, rfl⟩)
    go_ret
    exact ⟨by rw [HF.out]; rfl, hb0⟩
  · rw [h1] at KN
    cases h2 : crewB f2
    · have HF : Hid (frameE ⟨f1, f2, f3, f4, f5⟩ = 2) := by unfold Hid; simp only [frameE, h1, h2]; rfl
      have HE := Lib.hid (errV_pos ea (k := 2) (by decide))
      rw [show errV ea (crewE f2) = .iface 147 (.pointer (some (ea 2))) by rw [crewE, h2]; exact errV_pos ea (by decide)] at KC
      clear h1 h2
      go_enter Tryd.func47, Tryd.ntmps47
      go_wp2_with (first
        | (go_at_call 29; refine (KN.out _).mono ?_; rintro e w' ⟨rfl, rfl⟩)
        | (go_at_call 30; refine KC.out.mono ?_; rintro e w' ⟨rfl, rfl⟩))
      go_ret
      exact ⟨by rw [HF.out, HE.out]; rfl, hb0⟩
    · rw [show errV ea (crewE f2) = .nilIface by rw [crewE, h2]; exact errV_zero ea] at KC
      cases h3 : hasB f2 f1
      · have HF : Hid (frameE ⟨f1, f2, f3, f4, f5⟩ = 3) := by unfold Hid; simp only [frameE, h1, h2, h3]; rfl
        rw [h3] at KH
        clear h1 h2 h3
        go_enter Tryd.func47, Tryd.ntmps47
        go_wp2_with (first
          | (go_at_call 29; refine (KN.out _).mono ?_; rintro e w' ⟨rfl, rfl⟩)
          | (go_at_call 30; refine KC.out.mono ?_; rintro e w' ⟨rfl, rfl⟩)
          | (go_at_call 64; refine KH.out.mono ?_; rintro e w' ⟨rfl, rfl⟩))
        go_ret
        exact ⟨by rw [HF.out]; rfl, hb0⟩
      · have HB : Hid ((f3 < 0 ∨ 4 ≤ f3 ∨ f4 < 0 ∨ 1000000 < f4 ∨ f5 < -1048576 ∨ 1048576 < f5) → frameE ⟨f1, f2, f3, f4, f5⟩ = 2) := by
          unfold Hid; intro h
          simp only [frameE, h1, h2, h3, if_true]
          rw [if_neg]
          simp only [viewB, numB, Bool.and_eq_true, decide_eq_true_eq]; omega
        have HO : Hid (¬ (f3 < 0 ∨ 4 ≤ f3 ∨ f4 < 0 ∨ 1000000 < f4 ∨ f5 < -1048576 ∨ 1048576 < f5) → frameE ⟨f1, f2, f3, f4, f5⟩ = 0) := by
          unfold Hid; intro h
          simp only [frameE, h1, h2, h3, if_true]
          rw [if_pos]
          simp only [viewB, numB, Bool.and_eq_true, decide_eq_true_eq]; omega
        have HZ := Lib.hid (errV_zero ea)
        rw [h3] at KH
        clear h1 h2 h3
        go_enter Tryd.func47, Tryd.ntmps47
        go_wp2_with (first
          | (go_at_call 29; refine (KN.out _).mono ?_; rintro e w' ⟨rfl, rfl⟩)
          | (go_at_call 30; refine KC.out.mono ?_; rintro e w' ⟨rfl, rfl⟩)
          | (go_at_call 64; refine KH.out.mono ?_; rintro e w' ⟨rfl, rfl⟩))
        all_goals
          go_ret
          first
            | exact ⟨by rw [HB.out (by omega)]; rfl, hb0⟩
            | exact ⟨by rw [HO.out (by omega), HZ.out]; rfl, hb0⟩

/-- frame.Sum. -/
def sumStep (n : Nat) (b : UInt8) : Nat := (n * 257 + b.toNat + 1) % 65521
def sumF (l : List UInt8) : Nat := l.foldl sumStep 1
theorem sumFold_lt (l : List UInt8) : ∀ n, n < 65521 → l.foldl sumStep n < 65521 := by
  induction l with
  | nil => intro n h; exact h
  | cons b r ih => intro n _; exact ih _ (Nat.mod_lt _ (by decide))
theorem sumF_lt (l : List UInt8) : sumF l < 65521 := sumFold_lt l 1 (by decide)

theorem sum_any (l : List UInt8) (w : World) (hl : l.length ≤ 4294967280) :
    Calls Tryd.prog 49 #[.string ⟨l.toArray⟩] w fun e w' => e = .returned (.int .i64 (sumF l)) ∧ w = w' := by
  go_enter Tryd.func49, Tryd.ntmps49
  go_wp2
  go_loop [3, 7] (fun t i => ∃ k : Nat, k ≤ l.length ∧ i = .int .i64 k ∧ t = .int .i64 (sumF (l.take k))) (fun _ i => l.length - (intOf i).toNat)
  case atStart => exact ⟨0, Nat.zero_le _, rfl, rfl⟩
  case round =>
    obtain ⟨k, hk, rfl, rfl⟩ := hrel
    by_cases hlt : k < l.length
    · have hs : sumF (l.take (k + 1)) = (sumF (l.take k) * 257 + l[k].toNat + 1) % 65521 := by rw [List.take_succ_eq_append_getElem hlt, sumF, List.foldl_append]; rfl
      have hlt1 := sumF_lt (l.take k)
      have hu : l[k].toNat < 256 := UInt8.toNat_lt _
      have hx : (⟨l.toArray⟩ : ByteArray)[k]'(by simpa [ByteArray.size] using hlt) = l[k] := rfl
      have HS : Hid (((sumF (l.take (k + 1)) : Nat) : Int) = (((sumF (l.take k) : Nat) : Int) * 257 + (l[k].toNat : Int) + 1) % 65521) := by unfold Hid; rw [hs]; omega
      clear hs
      generalize sumF (l.take k) = n at *
      generalize l[k] = y at *
      go_wp2
      go_round
      case rel => exact ⟨k + 1, by omega, by go_num, by rw [HS.out]⟩
      case measure => simp [intOf]; omega
    · obtain rfl : k = l.length := by omega
      rw [List.take_length]
      go_wp2
      go_ret
      exact ⟨rfl, rfl⟩

theorem natural_any (l : List UInt8) (w : World) (hT : TxtEnv w) (hl : l.length ≤ 4294967280) :
    Calls Tryd.prog 51 #[.string ⟨l.toArray⟩] w fun e w' => e = .returned (.tuple #[.int .i64 (numN l), .bool (numIs l && decide (0 ≤ numN l))]) ∧ Below w.heap.size w w' := by
  have K := Lib.hid (number_any l w hT hl)
  clear hT
  cases h : numIs l
  · rw [h] at K
    clear h
    generalize numN l = n at *
    go_enter Tryd.func51, Tryd.ntmps51
    go_wp2_with fail
    refine K.out.mono ?_
    rintro e w1 ⟨rfl, hb⟩
    go_wp2
    go_ret2
    exact ⟨by simp, hb⟩
  · rw [h] at K
    clear h
    generalize numN l = n at *
    by_cases h0 : 0 ≤ n
    · have hd : decide (0 ≤ n) = true := by simpa using h0
      go_enter Tryd.func51, Tryd.ntmps51
      go_wp2_with fail
      refine K.out.mono ?_
      rintro e w1 ⟨rfl, hb⟩
      go_wp2
      go_ret2
      exact ⟨by simp [h0], hb⟩
    · have hd : decide (0 ≤ n) = false := by simpa using h0
      go_enter Tryd.func51, Tryd.ntmps51
      go_wp2_with fail
      refine K.out.mono ?_
      rintro e w1 ⟨rfl, hb⟩
      go_wp2
      go_ret2
      exact ⟨by simp [h0], hb⟩
end Go.Proofs.YtbfocagicagehaaDoor
