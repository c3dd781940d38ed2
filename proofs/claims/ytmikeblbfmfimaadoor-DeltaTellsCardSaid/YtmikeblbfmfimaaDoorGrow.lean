/- 'append(nil, make([]T, m)...)' and slices.Grow from nil. -/
import Derived.Test.YtmikeblbfmfimaaDoorEntOps
namespace Go.Proofs.YtmikeblbfmfimaaDoor
open Go.RowKit

theorem run_append_zeros {P : Program} (w : World) (t ti ty e : TypeId) (k : IntKind) (i : TypeInfo) (z : Value) (ht : P.underlying t = some (.slice e)) (hti : P.underlying ti = some (.int k)) (hi : P.info? e = some i) (hz : i.zero = some z)
    (m : Nat) (h0 : 0 < m) (h63 : (m : Int) ≤ 9223372036854775807) (h48 : m * i.bytes ≤ 281474976710656) (hsz : 0 < i.size) :
    (Builtin.append_ #[t, ti] ty #[.slice none 0 0, .int .i64 (m : Int)]).run P w =
      .ok (.slice (some ⟨w.heap.size, 0, none⟩) m (grownCap w m 0 e)) (w.drew.alloc (.cells (Builtin.zeroCells z.cells m ++ Builtin.zeroCells z.cells (grownCap w m 0 e - m)) e)) := by
  have hn : m ≠ 0 := by omega
  have hs : ¬ (m * i.size = 0) := by have := Nat.mul_pos h0 hsz; omega
  have hw : IntKind.i64.wrap (m : Int) = (m : Int) := IntWalk.i64_in _ (by omega)
  have h63' : ¬ (9223372036854775807 < (m : Int)) := by omega
  have hb : ((m : Int) * (i.bytes : Int)) ≤ 281474976710656 := by
    have : ((m * i.bytes : Nat) : Int) ≤ 281474976710656 := by omega
    rwa [Int.natCast_mul] at this
  have hb' : ¬ (281474976710656 < (m : Int) * (i.bytes : Int)) := by omega
  have h48' : ¬ (281474976710656 < Builtin.nextslicecap m 0 * i.bytes) := by rw [nextslicecap_zero h0]; omega
  have hneg : ¬ ((m : Int) < 0) := by omega
  simp [Builtin.append_, run_underlying ht, run_underlying hti, sizeOf, typeInfo, zeroValue, hi, hz, asInt, asIntOf, hw, hn, h63', h48', hb', hneg, Question.forced, run_firstCells_none, newRow, grownCap]
  intro h
  exact absurd h hs


theorem wpList_append_zeros {P : Program} (w : World) {ops : Array Oper} {rest : List Oper} {o : Oper} {a : Act} {Q : Exit → Act → World → Prop} (hgd : o.guard = none) (s x : Operand) (t ti e : TypeId) (k : IntKind)
    (ho : o.op = .call { callee := .builtin .append, args := #[s, x], argTypes := #[t, ti] })
    (i : TypeInfo) (z : Value) (ht : P.underlying t = some (.slice e)) (hti : P.underlying ti = some (.int k)) (hi : P.info? e = some i) (hz : i.zero = some z)
    (hs : a.eval s = .slice none 0 0) (m : Nat) (hx : a.eval x = .int .i64 (m : Int)) (h0 : 0 < m) (h63 : (m : Int) ≤ 9223372036854775807) (h48 : m * i.bytes ≤ 281474976710656) (hsz : 0 < i.size)
    (h : wpList P ops Q rest (a.put o.dst (.slice (some ⟨w.heap.size, 0, none⟩) m (grownCap w m 0 e))) (w.drew.alloc (.cells (Builtin.zeroCells z.cells m ++ Builtin.zeroCells z.cells (grownCap w m 0 e - m)) e))) : wpList P ops Q (o :: rest) a w :=
  wpList_plain hgd fun K hK => by
    unfold Oper.wp execOp
    simp only [ho, resolve, invoke, builtin, Sem.run_bind, Sem.run_pure, Result.andThen_ok, List.map_toArray, List.map_cons, List.map_nil, hs, hx, run_append_zeros (P := P) w t ti o.type e k i z ht hti hi hz m h0 h63 h48 hsz]
    exact hK _ _ h

set_option maxRecDepth 100000 in
set_option maxHeartbeats 400000 in
/-- slices.Grow(nil, m): room, and no element. -/
theorem growEnts_any (m : Nat) (w : World) (hm : m ≤ 4398046511104) :
    Calls Tryd.prog 89 #[.slice none 0 0, .int .i64 m] w fun e w' => ∃ v, e = .returned v ∧ w'.ownsRow w.heap.size 76 4 v 0 [] ∧ Below w.heap.size w w' := by
  obtain ⟨i0, hi, hz0, hz1, hz2⟩ := info_parts info_entry
  by_cases h0 : 0 < m
  · have hi' := Lib.hid hi
    have hz0' := Lib.hid hz0
    have hz1' := Lib.hid hz1
    have hz2' := Lib.hid hz2
    clear hi hz0 hz1 hz2
    go_enter Tryd.func89, Tryd.ntmps89
    go_wp2_with (at_builtin; refine wpList_append_zeros _ rfl (.tmp 20) (.tmp 21) 35 3 76 .i64 rfl i0 _ Tryd.underlying35 Tryd.underlying3 hi'.out hz0'.out rfl m rfl h0 ?_ ?_ ?_ ?_; omega; (rw [hz2'.out]; omega); (rw [hz1'.out]; omega))
    go_ret
    refine ⟨_, rfl, World.ownsRow_made w.drew _ _ (Nat.le_refl _) (grownCap_le_maxLen w m 0 _ (by unfold maxLen; omega)) ?_, (Below.drew (Below.refl _ _)).alloc (Nat.le_refl _) _⟩
    have hge := grownCap_ge w m 0 76
    simp only [Array.size_append, size_zeroCells]
    simp
    omega
  · obtain rfl : m = 0 := by omega
    clear hi hz0 hz1 hz2
    go_enter Tryd.func89, Tryd.ntmps89
    go_wp2
    go_ret
    exact ⟨_, rfl, World.ownsRow_nil _ _ _ _, Below.refl _ _⟩
end Go.Proofs.YtmikeblbfmfimaaDoor
