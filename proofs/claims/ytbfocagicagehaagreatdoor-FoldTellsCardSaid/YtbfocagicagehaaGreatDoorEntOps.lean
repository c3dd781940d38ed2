/- slices.Clone of a history; SameEntries; Agree. -/
import Derived.Test.YtbfocagicagehaaGreatDoorClique
import Derived.Test.YtbfocagicagehaaGreatDoorLib
import Derived.WalkSpells
namespace Go.Proofs.YtbfocagicagehaaGreatDoor
open Go.RowKit

theorem info_entry : (Tryz.prog.info? 82).map (fun i => (i.zero, i.size, i.bytes)) = some (some (.agg #[.int .i64 0, .int .i64 0, .bool false, .int .i64 0]), 4, 32) := by kernel_rfl

/-- Each cell of a history's row is one cell. -/
theorem encEnts_one (es : List Ent) : ∀ u ∈ encEnts es, u.oneCell' = true := by
  intro u hu
  obtain ⟨e, _, h⟩ := List.mem_flatMap.1 hu
  exact Ent.one e u h

/-- Two entries, as the program holds them against each other. -/
def entEq (e f : Ent) : Bool := decide (e = f)
theorem entEq_mk (e f : Ent) : entEq e f = (e.slot == f.slot && (e.frm == f.frm && (e.heard == f.heard && e.value == f.value))) := by
  obtain ⟨a, b, c, d⟩ := e
  obtain ⟨a', b', c', d'⟩ := f
  rw [Bool.eq_iff_iff]; simp [entEq]
set_option maxRecDepth 100000 in
theorem run_ent_eql (W : World) (e f : Ent) : (binOp .eql 82 e.v f.v).run Tryz.prog W = .ok (.bool (entEq e f)) W := by
  rw [entEq_mk]
  unfold Ent.v
  cases h1 : (e.slot == f.slot) <;> cases h2 : (e.frm == f.frm) <;> cases h3 : (e.heard == f.heard) <;> cases h4 : (e.value == f.value)
  all_goals go_simp
set_option maxRecDepth 100000 in
theorem run_ent_neq (W : World) (e f : Ent) : (binOp .neq 82 e.v f.v).run Tryz.prog W = .ok (.bool (!entEq e f)) W := by
  rw [entEq_mk]
  unfold Ent.v
  cases h1 : (e.slot == f.slot) <;> cases h2 : (e.frm == f.frm) <;> cases h3 : (e.heard == f.heard) <;> cases h4 : (e.value == f.value)
  all_goals go_simp

set_option maxRecDepth 100000 in
set_option maxHeartbeats 800000 in
theorem sameEnts_any (a a2 : Option Addr) (n cap n2 cap2 : Nat) (es fs : List Ent) (w : World) (hn : es.length = n) (hr : RowAt w a (encEnts es)) (hn2 : fs.length = n2) (hr2 : RowAt w a2 (encEnts fs)) (hc : n ≤ 4611686018427387904) :
    Calls Tryz.prog 19 #[.slice a n cap, .slice a2 n2 cap2] w fun e w' => e = .returned (.bool (decide (es = fs))) ∧ Below w.heap.size w w' := by
  by_cases hl : n = n2
  · subst hl
    have hq : ((n : Int) != (n : Int)) = false := by simp
    have HN := Lib.hid hn
    have HN2 := Lib.hid hn2
    clear hn hn2
    go_enter Tryz.func19, Tryz.ntmps19
    go_wp2
    go_loopw [5] (fun i wr => ∃ k : Nat, k ≤ n ∧ i = .int .i64 k ∧ Hid (es.take k = fs.take k) ∧ Below w.heap.size w wr) (fun i _ => n - (intOf i).toNat)
    case atStart => exact ⟨0, Nat.zero_le _, rfl, rfl, Below.refl _ _⟩
    case round =>
      obtain ⟨k, hk, rfl, HK, hb⟩ := hrel
      by_cases hlt : k < n
      · have hk1 : k < es.length := by have := HN.out; omega
        have hk2 : k < fs.length := by have := HN2.out; omega
        obtain ⟨b, off, rfl, hbl, c0, c1, c2, c3⟩ := (hr.below hb).ent k hk1
        obtain ⟨b', off', rfl, hbl', d0, d1, d2, d3⟩ := (hr2.below hb).ent k hk2
        have ht1 := Lib.hid (List.take_succ_eq_append_getElem hk1)
        have ht2 := Lib.hid (List.take_succ_eq_append_getElem hk2)
        have hi0 : (0 : Int) ≤ (k : Int) := by omega
        have hi1 : (k : Int) < (n : Int) := by omega
        by_cases he : es[k] = fs[k]
        · have HS : Hid (es.take (k + 1) = fs.take (k + 1)) := by unfold Hid at HK ⊢; rw [ht1.out, ht2.out, HK, he]
          rw [← he] at d0 d1 d2 d3
          clear ht1 ht2 he
          generalize es[k] = e at *
          go_wp2
          go_quiet (fail)
          go_wp2
          go_roundw
          case rel => exact ⟨k + 1, by omega, by go_num, HS, below_drewN hb _⟩
          case measure => simp [intOf]; omega
        · have HS : Hid (es ≠ fs) := by unfold Hid; intro e; subst e; exact he rfl
          have HE := Lib.hid he
          clear ht1 ht2 he
          generalize es[k] = e at *
          generalize fs[k] = f at *
          have hne : ∀ W : World, (binOp .neq 82 (.agg #[.int .i64 e.slot, .int .i64 e.frm, .bool e.heard, .int .i64 e.value]) (.agg #[.int .i64 f.slot, .int .i64 f.frm, .bool f.heard, .int .i64 f.value])).run Tryz.prog W = .ok (.bool true) W := fun W => by
            have h1 := run_ent_neq W e f
            rw [show entEq e f = false from decide_eq_false HE.out] at h1
            exact h1
          go_wp2
          go_quiet (fail)
          go_wp2
          go_ret
          exact ⟨ret_bool (by simp [HS.out]), below_drewN hb _⟩
      · have HS : Hid (es = fs) := by
          unfold Hid at HK ⊢
          have h1 := HN.out
          have h2 := HN2.out
          rwa [List.take_of_length_le (by omega), List.take_of_length_le (by omega)] at HK
        go_wp2
        go_ret
        exact ⟨ret_bool (by simp [HS.out]), hb⟩
  · have hq : ((n : Int) != (n2 : Int)) = true := by simp; omega
    have HS : Hid (es ≠ fs) := by unfold Hid; intro e; subst e; omega
    clear hl
    go_enter Tryz.func19, Tryz.ntmps19
    go_wp2
    go_ret
    exact ⟨ret_bool (by simp [HS.out]), Below.refl _ _⟩
end Go.Proofs.YtbfocagicagehaaGreatDoor
