/- append(own, l...) onto nil: numbers of one's own. -/
import Derived.Test.YtbfocagicagehaaDoorProg
import Derived.Test.YtbfocagicagehaaDoorAppend
import Derived.BigQuiet
namespace Go.Proofs.YtbfocagicagehaaDoor
open Go.RowKit

theorem info_int : (Tryd.prog.info? 3).map (fun i => (i.zero, i.size, i.bytes)) = some (some (.int .i64 0), 1, 8) := by kernel_rfl
theorem encInts_one (l : List Int) : ∀ u ∈ encInts l, u.oneCell' = true := by
  intro u hu; simp only [encInts, List.mem_map] at hu; obtain ⟨x, _, rfl⟩ := hu; rfl
theorem wpList_ownInts {ops : Array Oper} {rest : List Oper} {o : Oper} {a : Act} {Q : Exit → Act → World → Prop} {w : World} (hgd : o.guard = none) (s x : Operand)
    (ho : o.op = .call { callee := .builtin .append, args := #[s, x], argTypes := #[32, 32] }) (base : Nat)
    (sa : Option Addr) (m c : Nat) (l : List Int) (hs : a.eval s = .slice none 0 0) (hx : a.eval x = .slice sa m c) (hl : l.length = m) (hnews : RowAt w sa (encInts l)) (hc : m ≤ 4611686018427) (hbase : base ≤ w.heap.size)
    (h : ∀ ao co w', w'.ownsRow base 3 1 (.slice ao m co) m (encInts l) → RowAt w' ao (encInts l) → m ≤ co → Below w.heap.size w w' → wpList Tryd.prog ops Q rest (a.put o.dst (.slice ao m co)) w') : wpList Tryd.prog ops Q (o :: rest) a w := by
  obtain ⟨i0, hi, hz0, hz1, hz2⟩ := info_parts info_int
  refine wpList_append2 w hgd s x 32 ho base 3 i0 _ 1 8 Tryd.underlying32 hi hz0 hz1 hz2 rfl (by decide) (.slice none 0 0) 0 [] hs (World.ownsRow_nil _ _ _ _) sa m c (encInts l) hx (by rw [encInts_length]; omega) hnews (encInts_one l) (by unfold maxLen; omega) (by omega) hbase ?_
  intro v1 w2 ho1 hg1 _ _
  rw [List.nil_append, Nat.zero_add] at ho1
  obtain ⟨ao, co, rfl⟩ := owned_shape ho1
  obtain ⟨ra, _, na, _⟩ := RowAt.owned ho1
  exact h ao co w2 ho1 ra na ((Below.refl _ _).grown hg1 (Nat.le_refl _) (fun j e => by simp [Value.ownBlock] at e))
end Go.Proofs.YtbfocagicagehaaDoor
