/- plain.Code of whatever error package api makes; coded, faulted of the laws. -/
import Derived.Test.YtlpgafpmhihneaaDoorCode
namespace Go.Proofs.YtlpgafpmhihneaaDoor
open Go.RowKit

set_option maxRecDepth 100000 in
set_option maxHeartbeats 1600000 in
theorem code_flt (ea : Nat → Addr) (b : Nat) (pl : Int) (code : Nat) (w : World) (hG : GlobC w ea) (h0 : code ≠ 0) (h11 : code ≤ 11) (hlt : b < w.heap.size) (hp : 0 ≤ pl) (hc0 : w.cell? ⟨b, 0, none⟩ = some (.int .i64 pl)) (hc1 : w.cell? ⟨b, 1, none⟩ = some (errV ea code)) :
    Calls Tryd.prog 46 #[.iface 83 (.pointer (some ⟨b, 0, none⟩))] w fun e w' => e = .returned (.tuple #[.int .i64 code, .int .i64 pl]) ∧ Below w.heap.size w w' := by
  have HI := Lib.hid (fun (k : Nat) (hk : k < 11) (W : World) (hb : Below w.heap.size w W) => is_code ea (fltV b) code pl k W (hG.below hb) (Or.inr ⟨hp, h0, b, rfl, Nat.lt_of_lt_of_le hlt hb.size, (hb.cell (p := ⟨b, 0, none⟩) hlt).trans hc0, (hb.cell (p := ⟨b, 1, none⟩) hlt).trans hc1⟩) h0 h11 hk)
  rw [fltV] at HI
  have HG := Lib.hid hG
  have HC0 := Lib.hid hc0
  clear hG hc0 hc1
  go_enter Tryd.func46, Tryd.ntmps46
  go_wp2_with fail
  refine (as_hit ⟨b, 0, none⟩ ⟨w.heap.size, 0, none⟩ (.pointer none) _ (HG.out.typ.below ((Below.refl _ _).alloc (Nat.le_refl _) _)) (by simp) (by simp)).mono ?_
  rintro e w2 ⟨rfl, hw2⟩
  have hb2 : Below w.heap.size w w2 := by
    rw [hw2]; exact ((((((Below.refl _ _).alloc (Nat.le_refl _) _).alloc (by simp) _).alloc (by simp; omega) _).alloc (by simp; omega) _).alloc (by simp; omega) _).setCell (by simp) _
  have ct : w2.cell? ⟨w.heap.size, 0, none⟩ = some (.pointer (some ⟨b, 0, none⟩)) := by
    rw [hw2]
    refine World.cell?_setCell_same' _ _ _ ?_
    rw [World.cell?_alloc_lt _ _ ⟨w.heap.size, 0, none⟩ (by simp; omega), World.cell?_alloc_lt _ _ ⟨w.heap.size, 0, none⟩ (by simp; omega), World.cell?_alloc_lt _ _ ⟨w.heap.size, 0, none⟩ (by simp; omega), World.cell?_alloc_lt _ _ ⟨w.heap.size, 0, none⟩ (by simp)]
    simp
  clear hw2
  have c0 := (hb2.cell (p := ⟨b, 0, none⟩) hlt).trans HC0.out
  have g1 := (HG.out.glob.below hb2).cell 1 (by simp)
  have g2 := (HG.out.glob.below hb2).cell 2 (by simp)
  have g3 := (HG.out.glob.below hb2).cell 3 (by simp)
  have g4 := (HG.out.glob.below hb2).cell 4 (by simp)
  have g5 := (HG.out.glob.below hb2).cell 5 (by simp)
  have g6 := (HG.out.glob.below hb2).cell 6 (by simp)
  have g7 := (HG.out.glob.below hb2).cell 7 (by simp)
  have g8 := (HG.out.glob.below hb2).cell 8 (by simp)
  have g9 := (HG.out.glob.below hb2).cell 9 (by simp)
  have g10 := (HG.out.glob.below hb2).cell 10 (by simp)
  have g11 := (HG.out.glob.below hb2).cell 11 (by simp)
  simp only [gOf] at g1 g2 g3 g4 g5 g6 g7 g8 g9 g10 g11
  rw [errV_pos ea (by decide)] at g1
  rw [errV_pos ea (by decide)] at g2
  rw [errV_pos ea (by decide)] at g3
  rw [errV_pos ea (by decide)] at g4
  rw [errV_pos ea (by decide)] at g5
  rw [errV_pos ea (by decide)] at g6
  rw [errV_pos ea (by decide)] at g7
  rw [errV_pos ea (by decide)] at g8
  rw [errV_pos ea (by decide)] at g9
  rw [errV_pos ea (by decide)] at g10
  rw [errV_pos ea (by decide)] at g11
  go_wp2
  clear g1 g2 g3 g4 g5 g6 g7 g8 g9 g10 g11
  have hb3 : Below w.heap.size w (w2.alloc (.cells (errsL ea).toArray 25)) := hb2.alloc hb2.size _
  have hcell := Lib.hid (fun (k : Nat) (hk : k < 11) => (RowAt.new_at w2 (errsL ea) 25 _ rfl).cell (errsL_get ea k hk))
  change Code.wp _ _ _ _ (w2.alloc (.cells (errsL ea).toArray 25))
  clear c0 ct
  generalize w2.alloc (.cells (errsL ea).toArray 25) = w3 at *
  go_loop [3, 29] (fun at3 i => ∃ k : Nat, k < code ∧ i = .int .i64 k ∧ at3 = .int .i64 pl) (fun _ i => 11 - (intOf i).toNat)
  case atStart => exact ⟨0, by omega, rfl, rfl⟩
  case round =>
    obtain ⟨k, hkc, rfl, rfl⟩ := hrel
    have hi0 : (0 : Int) ≤ (k : Int) := by omega
    have hi1 : (k : Int) < 11 := by omega
    have c0 := hcell.out k (by omega)
    simp only [Nat.zero_add] at c0
    by_cases hx : k + 1 = code
    · have HX := Lib.hid hx
      clear hx
      go_wp2_with (go_at_call 73; refine (HI.out k (by omega) _ hb3).mono ?_; rintro e w4 ⟨rfl, rfl⟩; rw [decide_eq_true HX.out])
      go_ret2
      exact ⟨by rw [← HX.out]; simp, hb3⟩
    · have HX := Lib.hid hx
      clear hx
      go_wp2_with (go_at_call 73; refine (HI.out k (by omega) _ hb3).mono ?_; rintro e w4 ⟨rfl, rfl⟩; rw [decide_eq_false HX.out])
      go_round
      case rel => exact ⟨k + 1, by have := HX.out; omega, by go_num, rfl⟩
      case measure => simp [intOf]; omega

theorem code_bare (ea : Nat → Addr) (code : Nat) (w : World) (hG : GlobC w ea) (h0 : code ≠ 0) (h11 : code ≤ 11) :
    Calls Tryd.prog 46 #[errV ea code] w fun e w' => e = .returned (.tuple #[.int .i64 code, .int .i64 (-1)]) ∧ Below w.heap.size w w' := by
  have h := code_gen ea (ea code) code w hG (by omega) (by
    intro k hk W hb
    have h := is_code ea (errV ea code) code (-1) k W (hG.below hb) (ErrIs.bare ea W code) h0 h11 hk
    rw [errV_pos ea h0] at h; exact h)
  rw [codeV, if_pos h11] at h
  rw [errV_pos ea h0]; exact h

/-- plain.Code: the number and the place of whatever error it is. -/
theorem code_any (ea : Nat → Addr) (v : Value) (code : Nat) (pl : Int) (w : World) (hG : GlobC w ea) (hE : ErrIs ea w v code pl) (h11 : code ≤ 11) :
    Calls Tryd.prog 46 #[v] w fun e w' => e = .returned (.tuple #[.int .i64 code, .int .i64 pl]) ∧ Below w.heap.size w w' := by
  by_cases h0 : code = 0
  · subst h0
    obtain rfl := hE.place
    obtain rfl := hE.nil
    exact (code_nil w).mono fun e w' ⟨h1, h2⟩ => ⟨h1, by rw [h2]; exact Below.refl _ _⟩
  · rcases hE with ⟨rfl, rfl⟩ | ⟨hp, _, b, rfl, hlt, hc0, hc1⟩
    · exact code_bare ea code w hG h0 h11
    · exact code_flt ea b pl code w hG h0 h11 hlt hp hc0 hc1

theorem faulted1_any (ea : Nat → Addr) (v : Value) (code : Nat) (pl : Int) (fc fa : Int) (w : World) (hG : GlobC w ea) (hE : ErrIs ea w v code pl) (h11 : code ≤ 11) :
    Calls Tryd.prog 13 #[v, .agg #[.int .i64 fc, .int .i64 fa]] w fun e w' => e = .returned (.bool (decide ((code : Int) = fc ∧ (code = 0 ∨ pl = fa)))) ∧ Below w.heap.size w w' := by
  have HR : Hid (decide ((code : Int) = fc ∧ (code = 0 ∨ pl = fa)) = ((code : Int) == fc && ((code : Int) == 0 || pl == fa))) := by unfold Hid; rw [Bool.eq_iff_iff]; simp
  have hb0 : Below w.heap.size w (w.alloc (.cells #[.int .i64 fc, .int .i64 fa] 32)) := (Below.refl _ _).alloc (Nat.le_refl _) _
  have C := Lib.hid (code_any ea v code pl _ (hG.below hb0) (hE.below hb0) h11)
  have HB := Lib.hid hb0
  clear hb0
  cases hx : ((code : Int) == fc) <;> cases hy : ((code : Int) == 0)
  all_goals
    have HX := Lib.hid hx
    have HY := Lib.hid hy
    go_enter Tryd.func13, Tryd.ntmps13
    go_wp2_with fail
    refine C.out.mono ?_
    rintro e w1 ⟨rfl, hb⟩
    have c0 : w1.cell? ⟨w.heap.size, 0, none⟩ = some (.int .i64 fc) := (hb.cell (p := ⟨w.heap.size, 0, none⟩) (by simp)).trans (by simp)
    have c1 : w1.cell? ⟨w.heap.size, 1, none⟩ = some (.int .i64 fa) := (hb.cell (p := ⟨w.heap.size, 1, none⟩) (by simp)).trans (by simp)
    go_wp2
    go_ret
    exact ⟨ret_bool (by rw [HR.out, HX.out, HY.out]; rfl), HB.out.trans (hb.mono (by simp))⟩
end Go.Proofs.YtlpgafpmhihneaaDoor
