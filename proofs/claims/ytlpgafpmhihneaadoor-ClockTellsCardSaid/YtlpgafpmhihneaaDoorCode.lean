/- plain.Code: an error's number and place. -/
import Derived.Test.YtlpgafpmhihneaaDoorErrsIs
import Derived.BigQuiet
import Derived.Deep.QuietTactic
namespace Go.Proofs.YtlpgafpmhihneaaDoor
open Go.RowKit

/-- The variables of all eleven errors hold eleven errors, each another one; and errors.errorType is laid. -/
structure GlobC (w : World) (ea : Nat → Addr) : Prop where
  glob : Glob w ea [1, 2, 3, 4, 5, 6, 7, 8, 9, 10, 11]
  cells : ∀ k, 1 ≤ k → k ≤ 11 → ∃ ca ta, w.heap[(ea k).block]? = some (.cells ca ta (0, 0))
  inj : ∀ j k, 1 ≤ j → j ≤ 11 → 1 ≤ k → k ≤ 11 → ea j = ea k → j = k
  typ : ErrType w
theorem GlobC.below {w w' : World} {ea : Nat → Addr} (h : GlobC w ea) (hb : Below w.heap.size w w') : GlobC w' ea where
  glob := h.glob.below hb
  cells := fun k h1 h2 => by
    obtain ⟨ca, ta, hc⟩ := h.cells k h1 h2
    have hlt : (ea k).block < w.heap.size := (Array.getElem?_eq_some_iff.1 hc).1
    exact ⟨ca, ta, (hb.block _ hlt).trans hc⟩
  inj := h.inj
  typ := h.typ.below hb
theorem GlobC.sub {w : World} {ea : Nat → Addr} (h : GlobC w ea) {ls : List Nat} (hs : ∀ k ∈ ls, k ∈ [1, 2, 3, 4, 5, 6, 7, 8, 9, 10, 11]) : Glob w ea ls := h.glob.sub hs

/-- errors.Is: is it that error? -/
theorem is_code (ea : Nat → Addr) (v : Value) (code : Nat) (pl : Int) (k : Nat) (w : World) (hG : GlobC w ea) (hE : ErrIs ea w v code pl) (h0 : code ≠ 0) (h11 : code ≤ 11) (hk : k < 11) :
    Calls Tryd.prog 73 #[v, errV ea (k + 1)] w fun e w' => e = .returned (.bool (decide (k + 1 = code))) ∧ w = w' := by
  rw [errV_pos ea (show k + 1 ≠ 0 by omega)]
  obtain ⟨ca, ta, hca⟩ := hG.cells code (by omega) h11
  obtain ⟨cb, tb, hcb⟩ := hG.cells (k + 1) (by omega) (by omega)
  rcases hE with ⟨_, rfl⟩ | ⟨_, _, b, rfl, hlt, _, hc⟩
  · rw [errV_pos ea h0]
    by_cases hx : k + 1 = code
    · rw [hx, decide_eq_true rfl]
      exact (is_same (ea code) w).mono fun e w' ⟨h1, h2⟩ => ⟨h1, h2.symm⟩
    · rw [decide_eq_false hx]
      exact (is_other (ea code) (ea (k + 1)) ca cb ta tb w (fun e => hx (hG.inj _ _ (by omega) (by omega) (by omega) h11 e.symm)) hca hcb).mono fun e w' ⟨h1, h2⟩ => ⟨h1, h2.symm⟩
  · rw [errV_pos ea h0] at hc
    by_cases hx : k + 1 = code
    · rw [hx, decide_eq_true rfl]
      exact (is_flt_same b 0 (ea code) w hc).mono fun e w' ⟨h1, h2⟩ => ⟨h1, h2.symm⟩
    · rw [decide_eq_false hx]
      exact (is_flt_other b 0 (ea (k + 1)) (ea code) ca cb ta tb w hc (fun e => hx (hG.inj _ _ (by omega) (by omega) (by omega) h11 e.symm)) hca hcb).mono fun e w' ⟨h1, h2⟩ => ⟨h1, h2.symm⟩

def errsL (ea : Nat → Addr) : List Value := [.iface 202 (.pointer (some (ea 1))), .iface 202 (.pointer (some (ea 2))), .iface 202 (.pointer (some (ea 3))), .iface 202 (.pointer (some (ea 4))), .iface 202 (.pointer (some (ea 5))), .iface 202 (.pointer (some (ea 6))), .iface 202 (.pointer (some (ea 7))), .iface 202 (.pointer (some (ea 8))), .iface 202 (.pointer (some (ea 9))), .iface 202 (.pointer (some (ea 10))), .iface 202 (.pointer (some (ea 11)))]
theorem errsL_get (ea : Nat → Addr) (k : Nat) (hk : k < 11) : (errsL ea)[k]? = some (errV ea (k + 1)) := by
  rw [errV_pos ea (by omega)]
  have h : k = 0 ∨ k = 1 ∨ k = 2 ∨ k = 3 ∨ k = 4 ∨ k = 5 ∨ k = 6 ∨ k = 7 ∨ k = 8 ∨ k = 9 ∨ k = 10 := by omega
  rcases h with rfl | rfl | rfl | rfl | rfl | rfl | rfl | rfl | rfl | rfl | rfl <;> rfl

theorem ErrIs.place {ea : Nat → Addr} {w : World} {v : Value} {pl : Int} (h : ErrIs ea w v 0 pl) : pl = -1 := by
  rcases h with ⟨h, _⟩ | ⟨_, h, _⟩
  · exact h
  · exact absurd rfl h

theorem code_nil (w : World) : Calls Tryd.prog 46 #[.nilIface] w fun e w' => e = .returned (.tuple #[.int .i64 0, .int .i64 (-1)]) ∧ w = w' := by
  go_enter Tryd.func46, Tryd.ntmps46
  go_wp2
  go_ret2
  exact ⟨rfl, rfl⟩

/-- What plain.Code answers of an error that is the code-th of the eleven (beyond: another one). -/
def codeV (code : Nat) : Int := if code ≤ 11 then (code : Int) else -1

set_option maxRecDepth 100000 in
set_option maxHeartbeats 1600000 in
theorem code_gen (ea : Nat → Addr) (A : Addr) (code : Nat) (w : World) (hG : GlobC w ea) (h0 : 1 ≤ code)
    (HI : Hid (∀ k, k < 11 → ∀ W, Below w.heap.size w W → Calls Tryd.prog 73 #[.iface 202 (.pointer (some A)), errV ea (k + 1)] W fun e w' => e = .returned (.bool (decide (k + 1 = code))) ∧ W = w')) :
    Calls Tryd.prog 46 #[.iface 202 (.pointer (some A))] w fun e w' => e = .returned (.tuple #[.int .i64 (codeV code), .int .i64 (-1)]) ∧ Below w.heap.size w w' := by
  have HG := Lib.hid hG
  clear hG
  go_enter Tryd.func46, Tryd.ntmps46
  go_wp2_with fail
  refine (as_miss A ⟨w.heap.size, 0, none⟩ _ (HG.out.typ.below ((Below.refl _ _).alloc (Nat.le_refl _) _))).mono ?_
  rintro e w2 ⟨rfl, hw2⟩
  have hb2 : Below w.heap.size w w2 := by
    rw [hw2]; exact ((((Below.refl _ _).alloc (Nat.le_refl _) _).alloc (by simp) _).alloc (by simp; omega) _).alloc (by simp; omega) _
  clear hw2
  have g1 := (HG.out.glob.below hb2).cell 1 (by simp)
  have g2 := (HG.out.glob.below hb2).cell 2 (by simp)
  have g3 := (HG.out.glob.below hb2).cell 3 (by simp)
  have g4 := (HG.out.glob.below hb2).cell 4 (by simp)
  have g5 := (HG.out.glob.below hb2).cell 5 (by simp)
  have g6 := (HG.out.glob.below hb2).cell 6 (by simp)
  have g7 := (HG.out.glob.below hb2).cell 7 (by simp)
  have g8 := (HG.out.glob.below hb2).cell 8 (by simp)
  have g9 := (HG.out.glob.below hb2).cell 9 (by simp)
  have g10 := (HG.out.glob.below hb2).cell 10 (by simp)
  have g11 := (HG.out.glob.below hb2).cell 11 (by simp)
  simp only [gOf] at g1 g2 g3 g4 g5 g6 g7 g8 g9 g10 g11
  rw [errV_pos ea (by decide)] at g1
  rw [errV_pos ea (by decide)] at g2
  rw [errV_pos ea (by decide)] at g3
  rw [errV_pos ea (by decide)] at g4
  rw [errV_pos ea (by decide)] at g5
  rw [errV_pos ea (by decide)] at g6
  rw [errV_pos ea (by decide)] at g7
  rw [errV_pos ea (by decide)] at g8
  rw [errV_pos ea (by decide)] at g9
  rw [errV_pos ea (by decide)] at g10
  rw [errV_pos ea (by decide)] at g11
  go_wp2
  clear g1 g2 g3 g4 g5 g6 g7 g8 g9 g10 g11
  have hb3 : Below w.heap.size w (w2.alloc (.cells (errsL ea).toArray 25)) := hb2.alloc hb2.size _
  have hcell := Lib.hid (fun (k : Nat) (hk : k < 11) => (RowAt.new_at w2 (errsL ea) 25 _ rfl).cell (errsL_get ea k hk))
  change Code.wp _ _ _ _ (w2.alloc (.cells (errsL ea).toArray 25))
  generalize w2.alloc (.cells (errsL ea).toArray 25) = w3 at *
  go_loop [3, 29] (fun at3 i => ∃ k : Nat, k ≤ 11 ∧ k < code ∧ i = .int .i64 k ∧ at3 = .int .i64 (-1)) (fun _ i => 11 - (intOf i).toNat)
  case atStart => exact ⟨0, by omega, by omega, rfl, rfl⟩
  case round =>
    obtain ⟨k, hk, hkc, rfl, rfl⟩ := hrel
    by_cases hlt : k < 11
    · have hi0 : (0 : Int) ≤ (k : Int) := by omega
      have hi1 : (k : Int) < 11 := by omega
      have c0 := hcell.out k (by omega)
      simp only [Nat.zero_add] at c0
      by_cases hx : k + 1 = code
      · have HCV := Lib.hid (show codeV code = (code : Int) by rw [codeV, if_pos (by omega)])
        have HX := Lib.hid hx
        clear hx
        go_wp2_with (go_at_call 73; refine (HI.out k (by omega) _ hb3).mono ?_; rintro e w4 ⟨rfl, rfl⟩; rw [decide_eq_true HX.out])
        go_ret2
        exact ⟨by rw [HCV.out, ← HX.out]; simp, hb3⟩
      · have HX := Lib.hid hx
        clear hx
        go_wp2_with (go_at_call 73; refine (HI.out k (by omega) _ hb3).mono ?_; rintro e w4 ⟨rfl, rfl⟩; rw [decide_eq_false HX.out])
        go_round
        case rel => exact ⟨k + 1, by omega, by have := HX.out; omega, by go_num, rfl⟩
        case measure => simp [intOf]; omega
    · obtain rfl : k = 11 := by omega
      have hc : codeV code = -1 := by rw [codeV, if_neg (by omega)]
      have HC := Lib.hid hc
      clear hc
      go_wp2
      go_ret2
      exact ⟨by rw [HC.out]; rfl, hb3⟩
end Go.Proofs.YtlpgafpmhihneaaDoor
