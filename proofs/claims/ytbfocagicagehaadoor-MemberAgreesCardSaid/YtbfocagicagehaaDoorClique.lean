/- clique: the contracts of each, Check, Tally, Stays. -/
import Derived.Test.YtbfocagicagehaaDoorProg
import Derived.Test.YtbfocagicagehaaDoorLib
import Derived.Test.YtbfocagicagehaaDoorNode
import Derived.BigQuiet
import Derived.Deep.QuietTactic
namespace Go.Proofs.YtbfocagicagehaaDoor
open Go.RowKit

/-- What is wrong with entry i. -/
def chkE (i : Int) (e : Ent) : Nat :=
  if e.slot ≠ i then 10 else if nodeB e.frm = false then 4 else if numB e.value = false then 2 else if e.heard = false ∧ e.value ≠ 0 then 3 else 0

set_option maxHeartbeats 400000 in
theorem each_any (ea : Nat → Addr) (i : Int) (s f : Int) (h : Bool) (v : Int) (w : World) (hg : Glob w ea [10, 4, 2, 3]) :
    Calls Tryd.prog 21 #[.int .i64 i, .agg #[.int .i64 s, .int .i64 f, .bool h, .int .i64 v]] w fun e w' => e = .returned (errV ea (chkE i ⟨s, f, h, v⟩)) ∧ Below w.heap.size w w' := by
  have g10 := hg.cell 10 (by simp)
  have g4 := hg.cell 4 (by simp)
  have g2 := hg.cell 2 (by simp)
  have g3 := hg.cell 3 (by simp)
  have l10 := hg.lt 10 (by simp)
  have l4 := hg.lt 4 (by simp)
  have l2 := hg.lt 2 (by simp)
  have l3 := hg.lt 3 (by simp)
  simp only [gOf] at g10 g4 g2 g3 l10 l4 l2 l3
  go_enter Tryd.func21, Tryd.ntmps21
  go_wp2_with (go_at_call 29; refine (node_any _ _).mono ?_; rintro e w' ⟨rfl, rfl⟩)
  all_goals
    go_ret
    first
      | refine ⟨ret_v (congrArg (errV ea) ?_), (Below.refl _ _).alloc (Nat.le_refl _) _⟩
      | refine ⟨ret_v (nil_errV ea ?_), (Below.refl _ _).alloc (Nat.le_refl _) _⟩
    clear hg g10 g4 g2 g3 l10 l4 l2 l3
    first
      | (simp_all [chkE, numB]; done)
      | (simp_all [chkE, numB]; omega)

def chkFrom (i : Int) : List Ent → Nat × Int
  | [] => (0, -1)
  | e :: r => if chkE i e = 0 then chkFrom (i + 1) r else (chkE i e, i)
/-- clique.Check of a history. -/
def chk (es : List Ent) : Nat × Int := if 200 < es.length then (7, -1) else chkFrom 0 es

set_option maxHeartbeats 400000 in
theorem check_any (ea : Nat → Addr) (a : Option Addr) (n cap : Nat) (es : List Ent) (w : World) (hg : Glob w ea [7, 10, 4, 2, 3]) (hn : es.length = n) (hr : RowAt w a (encEnts es)) (hm : n ≤ 4611686018427387904):
    Calls Tryd.prog 7 #[.slice a n cap] w fun e w' => ∃ v, e = .returned v ∧ ErrIs ea w' v (chk es).1 (chk es).2 ∧ Below w.heap.size w w' := by
  have g7 := hg.cell 7 (by simp)
  have l7 := hg.lt 7 (by simp)
  simp only [gOf] at g7 l7
  go_enter Tryd.func7, Tryd.ntmps7
  go_wp2
  · go_ret
    have h2 : 200 < es.length := by omega
    exact ⟨_, rfl, by simp only [chk, if_pos h2]; exact ErrIs.bare ea w 7, Below.refl _ _⟩
  have h2 : ¬ 200 < es.length := by omega
  have HC : Hid (chk es = chkFrom 0 es) := by unfold Hid; rw [chk, if_neg h2]
  clear g7 l7 h2
  go_loopw [12] (fun i wr => ∃ k : Nat, k ≤ n ∧ i = .int .i64 k ∧ Hid (chkFrom k (es.drop k) = chkFrom 0 es) ∧ Below w.heap.size w wr) (fun i _ => n - (intOf i).toNat)
  case atStart => exact ⟨0, Nat.zero_le _, rfl, rfl, Below.refl _ _⟩
  case round =>
    obtain ⟨k, hk, rfl, HK, hb⟩ := hrel
    by_cases hlt : k < n
    · obtain ⟨b, off, rfl, hbl, c0, c1, c2, c3⟩ := (hr.below hb).ent k (by omega)
      have hge := (hg.below hb).sub (ls := [10, 4, 2, 3]) (by simp)
      have hd : es.drop k = es[k] :: es.drop (k + 1) := List.drop_eq_getElem_cons (by omega)
      by_cases hz : chkE k es[k] = 0
      · have he : errV ea (chkE k ⟨es[k].slot, es[k].frm, es[k].heard, es[k].value⟩) = .nilIface := by rw [show chkE k ⟨es[k].slot, es[k].frm, es[k].heard, es[k].value⟩ = 0 from hz]; exact errV_zero ea
        have HS : Hid (chkFrom (k + 1 : Nat) (es.drop (k + 1)) = chkFrom 0 es) := by
          unfold Hid at HK ⊢; rw [← HK, hd, chkFrom, if_pos hz]; rfl
        clear hd hz HK HC
        go_wp2_with (go_at_call 21; refine (each_any ea _ _ _ _ _ _ ?_).mono ?_; exact hge.below ((Below.refl _ _).alloc (Nat.le_refl _) _); rintro e w1 ⟨rfl, hb1⟩)
        go_roundw
        case rel => exact ⟨k + 1, by omega, by go_num, HS, hb.trans (((Below.refl _ _).alloc hb.size _).trans (hb1.mono (by simp; have := hb.size; omega)))⟩
        case measure => simp [intOf]; omega
      · have he : errV ea (chkE k ⟨es[k].slot, es[k].frm, es[k].heard, es[k].value⟩) = .iface 147 (.pointer (some (ea (chkE k ⟨es[k].slot, es[k].frm, es[k].heard, es[k].value⟩)))) := errV_pos ea hz
        have HS : Hid (chk es = (chkE k es[k], (k : Int))) := by
          unfold Hid at HK HC ⊢; rw [HC, ← HK, hd, chkFrom, if_neg hz]
        have HE := Lib.hid he
        have HZ := Lib.hid hz
        clear hd hz HK HC
        go_wp2_with (go_at_call 21; refine (each_any ea _ _ _ _ _ _ ?_).mono ?_; exact hge.below ((Below.refl _ _).alloc (Nat.le_refl _) _); rintro e w1 ⟨rfl, hb1⟩)
        go_ret
        have hsz := hb.size
        refine ⟨_, rfl, ?_, (hb.trans (((Below.refl _ _).alloc hb.size _).trans (hb1.mono (by simp; omega)))).alloc (by have := hb1.size; simp at this; omega) _⟩
        rw [HS.out]
        exact Or.inr ⟨by omega, HZ.out, w1.heap.size, rfl, by simp, by simp, by simp; exact HE.out.symm⟩
    · have HS : Hid (chk es = (0, -1)) := by
        unfold Hid at HK HC ⊢; rw [HC, ← HK, List.drop_eq_nil_of_le (by omega)]; rfl
      go_wp2
      go_ret
      refine ⟨_, rfl, ?_, hb⟩
      rw [HS.out]
      exact Or.inl ⟨rfl, (errV_zero ea).symm⟩
end Go.Proofs.YtbfocagicagehaaDoor
