/- The closed fact of histories' texts. -/
import Derived.Test.YtbfocagicagehaaGreatDoorFoldRead
import Derived.Test.YtbfocagicagehaaGreatDoorEntOps
namespace Go.Proofs.YtbfocagicagehaaGreatDoor
open Go.RowKit

def ff : List Ent := [⟨0, 1, true, 4⟩, ⟨1, 2, false, 0⟩, ⟨2, 3, true, -5⟩]
theorem ff_chk : (chk ff).1 = 0 := by decide
theorem ff_text : histT ff = [49, 58, 52, 44, 50, 33, 44, 51, 58, 45, 53] := by
  have h1 : Lib.itoa 1 = [49] := by rw [show (1 : Int) = ((1 : Nat) : Int) from rfl, Lib.itoa_nonneg, decDigits_small (by omega)]; rfl
  have h2 : Lib.itoa 2 = [50] := by rw [show (2 : Int) = ((2 : Nat) : Int) from rfl, Lib.itoa_nonneg, decDigits_small (by omega)]; rfl
  have h3 : Lib.itoa 3 = [51] := by rw [show (3 : Int) = ((3 : Nat) : Int) from rfl, Lib.itoa_nonneg, decDigits_small (by omega)]; rfl
  have h4 : Lib.itoa 4 = [52] := by rw [show (4 : Int) = ((4 : Nat) : Int) from rfl, Lib.itoa_nonneg, decDigits_small (by omega)]; rfl
  have h5 : Lib.itoa (-5) = [45, 53] := by rw [show (-5 : Int) = -((5 : Nat) : Int) from rfl, Lib.itoa_neg 5 (by omega), decDigits_small (by omega)]; rfl
  rw [histT, if_neg (by simp [ff])]
  simp only [ff, List.map_cons, List.map_nil, entT, h1, h2, h3, h4, h5]
  rfl
theorem ff_read : foldR [49, 58, 52, 44, 50, 33, 44, 51, 58, 45, 53] = ((0, -1), ff) := by rw [← ff_text]; exact hist_read ff_chk
theorem ff_sum : (lastF ff).sum = -1 := by decide

set_option maxRecDepth 100000 in
set_option maxHeartbeats 800000 in
theorem folded_any (ea : Nat → Addr) (w : World) (hg : Glob w ea [1, 2, 3, 4, 7, 10]) (hT : TxtEnv w) :
    Calls Tryz.prog 7 #[] w fun e w' => e = .returned (.bool true) ∧ Below w.heap.size w w' := by
  have K1 := Lib.hid (foldRead_any ea [49, 58, 52, 44, 50, 33, 44, 51, 58, 45, 53] w (by decide) hg hT)
  rw [ff_read] at K1
  have K2 := Lib.hid (fun (W : World) (a : Option Addr) (cap : Nat) (hb : Below w.heap.size w W) (hr : RowAt W a (encEnts ff)) => total_any ea a 3 cap ff W ((hg.below hb).sub (by simp)) rfl hr (by omega) ff_chk)
  rw [ff_sum] at K2
  have HQ : ∀ W : World, (binOp .eql 82 (.agg #[.int .i64 2, .int .i64 3, .bool true, .int .i64 (-5)]) (.agg #[.int .i64 2, .int .i64 3, .bool true, .int .i64 (-5)])).run Tryz.prog W = .ok (.bool true) W := fun W => by
    have h1 := run_ent_eql W ⟨2, 3, true, -5⟩ ⟨2, 3, true, -5⟩
    rw [show entEq ⟨2, 3, true, -5⟩ ⟨2, 3, true, -5⟩ = true from decide_eq_true rfl] at h1
    exact h1
  clear hg hT
  go_enter Tryz.func7, Tryz.ntmps7
  go_wp2_with fail
  refine K1.out.mono ?_
  rintro e w1 ⟨v, a, n, cap, rfl, hv, hr, hn, hc, hb1⟩
  obtain rfl : v = .nilIface := hv.nil
  have hn : 3 = n := hn
  subst hn
  have hr : RowAt w1 a (encEnts ff) := hr
  go_wp2_with fail
  refine (K2.out _ a cap hb1 hr).mono ?_
  rintro e w2 ⟨rfl, hb2⟩
  obtain ⟨b, off, rfl, hbl, c0, c1, c2, c3⟩ := (hr.below hb2).ent 2 (by decide)
  have c0 : w2.cell? ⟨b, off + 8, none⟩ = some (.int .i64 2) := c0
  have c1 : w2.cell? ⟨b, off + 8 + 1, none⟩ = some (.int .i64 3) := c1
  have c2 : w2.cell? ⟨b, off + 8 + 2, none⟩ = some (.bool true) := c2
  have c3 : w2.cell? ⟨b, off + 8 + 3, none⟩ = some (.int .i64 (-5)) := c3
  go_wp2
  go_ret
  exact ⟨rfl, hb1.trans (hb2.mono hb1.size)⟩
end Go.Proofs.YtbfocagicagehaaGreatDoor
