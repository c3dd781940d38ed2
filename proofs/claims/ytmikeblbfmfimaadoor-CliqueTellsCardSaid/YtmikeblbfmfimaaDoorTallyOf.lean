/- the reference's TallyOf; clique.Tally and Stays, in one contract each. -/
import Derived.Test.YtmikeblbfmfimaaDoorRefHist
import Derived.Test.YtmikeblbfmfimaaDoorClique3
import Derived.RegionTactic
namespace Go.Proofs.YtmikeblbfmfimaaDoor
open Go.RowKit

theorem chkFrom_zero : ∀ (es : List Ent) (i : Int), (chkFrom i es).1 = 0 → chkFrom i es = (0, -1)
  | [], _, _ => rfl
  | e :: r, i, h => by
    rw [chkFrom] at h ⊢
    split
    · rename_i hz; rw [if_pos hz] at h; exact chkFrom_zero r _ h
    · rename_i hz; rw [if_neg hz] at h; exact absurd h hz
theorem chk_zero {es : List Ent} (h : (chk es).1 = 0) : chk es = (0, -1) := by
  unfold chk at h ⊢
  split
  · rename_i hl; rw [if_pos hl] at h; simp at h
  · rename_i hl; rw [if_neg hl] at h; exact chkFrom_zero es 0 h
theorem chkE_le (i : Int) (e : Ent) : chkE i e ≤ 11 := by unfold chkE; repeat (first | omega | split)
theorem chkFrom_le : ∀ (es : List Ent) (i : Int), (chkFrom i es).1 ≤ 11
  | [], _ => by simp [chkFrom]
  | e :: r, i => by
    rw [chkFrom]; split
    · exact chkFrom_le r _
    · exact chkE_le i e
theorem chk_le (es : List Ent) : (chk es).1 ≤ 11 := by
  unfold chk; split
  · simp
  · exact chkFrom_le es 0

def tC (r : Int) (es : List Ent) : Nat := if (chk es).1 ≠ 0 then (chk es).1 else if 1 ≤ r ∧ r ≤ 32 then 0 else 2
def tG (r : Int) (es : List Ent) : Int := if (chk es).1 = 0 ∧ 1 ≤ r ∧ r ≤ 32 then goods (lastR r es) else 0
def tB (r : Int) (es : List Ent) : Int := if (chk es).1 = 0 ∧ 1 ≤ r ∧ r ≤ 32 then bads (lastR r es) else 0
theorem tC_le (r : Int) (es : List Ent) : tC r es ≤ 11 := by have := chk_le es; unfold tC; repeat (first | omega | split)

theorem tally_any (ea : Nat → Addr) (a : Option Addr) (n cap : Nat) (es : List Ent) (r : Int) (w : World) (hg : Glob w ea [7, 10, 4, 2, 3]) (hn : es.length = n) (hr : RowAt w a (encEnts es)) (hm : n ≤ cap) (hc : n ≤ 4611686018427387904) :
    Calls Tryd.prog 18 #[.slice a n cap, .int .i64 r] w fun e w' => ∃ v, e = .returned (.tuple #[.int .i64 (tG r es), .int .i64 (tB r es), v]) ∧ ErrIs ea w' v (tC r es) (chk es).2 ∧ Below w.heap.size w w' := by
  by_cases h0 : (chk es).1 = 0
  · have e1 : (chk es).2 = -1 := by rw [chk_zero h0]
    by_cases h1 : 1 ≤ r ∧ r ≤ 32
    · refine (tally_ok ea a n cap es r w hg hn hr hm hc h0 h1.1 h1.2).mono ?_
      rintro e w' ⟨rfl, hb⟩
      refine ⟨_, by rw [tG, tB, if_pos ⟨h0, h1⟩, if_pos ⟨h0, h1⟩], ?_, hb⟩
      rw [tC, if_neg (by simp [h0]), if_pos h1, e1]
      exact Or.inl ⟨rfl, (errV_zero ea).symm⟩
    · refine (tally_round ea a n cap es r w hg hn hr hm hc h0 h1).mono ?_
      rintro e w' ⟨rfl, hb⟩
      refine ⟨_, by rw [tG, tB, if_neg (fun h => h1 h.2), if_neg (fun h => h1 h.2)], ?_, hb⟩
      rw [tC, if_neg (by simp [h0]), if_neg h1, e1]
      exact ErrIs.bare ea w' 2
  · refine (tally_chk ea a n cap es r w hg hn hr hm hc h0).mono ?_
    rintro e w' ⟨v, rfl, hE, hb⟩
    refine ⟨v, by rw [tG, tB, if_neg (fun h => h0 h.1), if_neg (fun h => h0 h.1)], ?_, hb⟩
    rw [tC, if_pos h0]
    exact hE

theorem stays_any (ea : Nat → Addr) (a : Option Addr) (n cap : Nat) (es : List Ent) (r : Int) (w : World) (hg : Glob w ea [7, 10, 4, 2, 3]) (hn : es.length = n) (hr : RowAt w a (encEnts es)) (hm : n ≤ cap) (hc : n ≤ 4611686018427387904) :
    Calls Tryd.prog 20 #[.slice a n cap, .int .i64 r] w fun e w' => ∃ v, e = .returned (.tuple #[.bool (decide (tB r es < tG r es)), v]) ∧ ErrIs ea w' v (tC r es) (chk es).2 ∧ Below w.heap.size w w' := by
  by_cases h0 : (chk es).1 = 0
  · have e1 : (chk es).2 = -1 := by rw [chk_zero h0]
    by_cases h1 : 1 ≤ r ∧ r ≤ 32
    · refine (stays_ok ea a n cap es r w hg hn hr hm hc h0 h1.1 h1.2).mono ?_
      rintro e w' ⟨rfl, hb⟩
      refine ⟨_, by rw [tG, tB, if_pos ⟨h0, h1⟩, if_pos ⟨h0, h1⟩]; rfl, ?_, hb⟩
      rw [tC, if_neg (by simp [h0]), if_pos h1, e1]
      exact Or.inl ⟨rfl, (errV_zero ea).symm⟩
    · refine (stays_round ea a n cap es r w hg hn hr hm hc h0 h1).mono ?_
      rintro e w' ⟨rfl, hb⟩
      refine ⟨_, by rw [tG, tB, if_neg (fun h => h1 h.2), if_neg (fun h => h1 h.2)]; rfl, ?_, hb⟩
      rw [tC, if_neg (by simp [h0]), if_neg h1, e1]
      exact ErrIs.bare ea w' 2
  · refine (stays_chk ea a n cap es r w hg hn hr hm hc h0).mono ?_
    rintro e w' ⟨v, rfl, hE, hb⟩
    refine ⟨v, by rw [tG, tB, if_neg (fun h => h0 h.1), if_neg (fun h => h0 h.1)]; rfl, ?_, hb⟩
    rw [tC, if_pos h0]
    exact hE

set_option maxRecDepth 100000 in
set_option maxHeartbeats 800000 in
/-- The history is not right. -/
theorem tallyOf_chk (a : Option Addr) (n cap : Nat) (es : List Ent) (r : Int) (w : World) (hn : es.length = n) (hr : RowAt w a (encEnts es)) (hm : n ≤ 4611686018427387904) (h0 : (chk es).1 ≠ 0) :
    Calls Tryd.prog 19 #[.slice a n cap, .int .i64 r] w fun e w' => e = .returned (.tuple #[.int .i64 0, .int .i64 0, .agg #[.int .i64 (chk es).1, .int .i64 (chk es).2]]) ∧ Below w.heap.size w w' := by
  have hb0 : Below w.heap.size w (w.alloc (.cells #[.int .i64 0, .int .i64 0] 39)) := (Below.refl _ _).alloc (Nat.le_refl _) _
  have C := Lib.hid (histFault_any a n cap es _ hn (hr.below hb0) hm)
  have hp : (0 : Int) < ((chk es).1 : Int) := by omega
  have hz : (((chk es).1 : Int) == 0) = false := by simp; omega
  generalize ((chk es).1 : Int) = c at *
  generalize (chk es).2 = pl at *
  have HB0 := Lib.hid hb0
  clear hb0 h0
  go_enter Tryd.func19, Tryd.ntmps19
  go_wp2_with fail
  refine C.out.mono ?_
  rintro e w1 ⟨rfl, hb⟩
  obtain ⟨c0, c1, f0, f1, z1, hw1⟩ := own2 hb
  go_wp2
  go_region
  go_wp2
  have d0 : (((w1.setCell ⟨w.heap.size, 0, none⟩ (.int .i64 c)).setCell ⟨w.heap.size, 1, none⟩ (.int .i64 pl)).alloc (.cells #[.int .i64 c, .int .i64 pl] 39)).cell? ⟨w.heap.size, 0, none⟩ = some (.int .i64 c) := by
    rw [World.cell?_alloc_lt _ _ ⟨w.heap.size, 0, none⟩ (by simpa using z1)]; go_simp
  have d1 : (((w1.setCell ⟨w.heap.size, 0, none⟩ (.int .i64 c)).setCell ⟨w.heap.size, 1, none⟩ (.int .i64 pl)).alloc (.cells #[.int .i64 c, .int .i64 pl] 39)).cell? ⟨w.heap.size, 1, none⟩ = some (.int .i64 pl) := by
    rw [World.cell?_alloc_lt _ _ ⟨w.heap.size, 1, none⟩ (by simpa using z1)]; go_simp
  refine bodyPost_ret (v := .tuple #[.int .i64 0, .int .i64 0, .agg #[.int .i64 c, .int .i64 pl]]) (by simp [results, Tryd.results19, go_sem, d0, d1]) rfl ?_
  exact ⟨rfl, below_drewN (((hw1.setCell (by simp) _).setCell (by simp) _).alloc (by simpa using hw1.size) _) 1⟩
end Go.Proofs.YtmikeblbfmfimaaDoor
