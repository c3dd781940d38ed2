/- crew.nodes: its iterator's contract; crew.List. -/
import Derived.RangeFuncFrom
import Derived.Maps.AppendAt
import Derived.RangeFuncNested
import Derived.RangeFuncBound
import Derived.RangeFuncCalls
import Derived.RangeFuncBox
import Derived.RangeFuncLeaves
import Derived.Shelf.Abstract
import Derived.Shelf.RegionOpen
import Derived.WalkKit
import Derived.OwnWalkIn
import Derived.TacticsInMore
import Derived.LoopNIn
import Derived.LoopIn
import Derived.Test.YtbfocagicagehaaDoorCrew
import Derived.Test.YtbfocagicagehaaDoorIterBox
import Derived.Test.YtbfocagicagehaaDoorAppend
namespace Go.Proofs.YtbfocagicagehaaDoor
open Go.RowKit Go.Shelf

attribute [local go_sem] Oper.semAt_some

/-- The nodes of a crew up to k, rising. -/
def listTo (c : Int) : Nat → List Int
  | 0 => []
  | k + 1 => listTo c k ++ if hasB c ((k : Int) + 1) then [(k : Int) + 1] else []
theorem listTo_yes {c : Int} {k : Nat} (h : hasB c ((k : Int) + 1) = true) : listTo c (k + 1) = listTo c k ++ [(k : Int) + 1] := by rw [listTo, if_pos h]
theorem listTo_no {c : Int} {k : Nat} (h : hasB c ((k : Int) + 1) = false) : listTo c (k + 1) = listTo c k := by rw [listTo, if_neg (by simp [h]), List.append_nil]
theorem listTo_length (c : Int) : ∀ k, (listTo c k).length ≤ k
  | 0 => Nat.le_refl _
  | k + 1 => by
    have := listTo_length c k
    rw [listTo, List.length_append]
    split <;> simp <;> omega
theorem listTo_prefix (c : Int) (k : Nat) : ∀ m, k ≤ m → listTo c k <+: listTo c m
  | 0, h => by obtain rfl : k = 0 := by omega
               exact List.prefix_refl _
  | m + 1, h => by
    by_cases e : k = m + 1
    · subst e; exact List.prefix_refl _
    · exact (listTo_prefix c k m (by omega)).trans (by rw [listTo]; exact List.prefix_append _ _)

/-- What a round of a loop over a crew's nodes keeps: what lay below n₀, and the crew's box. -/
def KeepC (n₀ Bc : Nat) (A B : World) : Prop := Below n₀ A B ∧ B.cell? ⟨Bc, 0, none⟩ = A.cell? ⟨Bc, 0, none⟩
theorem keepC_t {n₀ Bc : Nat} {A B C : World} (h : KeepC n₀ Bc A B) (k : KeepC n₀ Bc B C) : KeepC n₀ Bc A C := ⟨h.1.trans k.1, k.2.trans h.2⟩
theorem keepC_b {n₀ Bc : Nat} {w : World} (hn : n₀ ≤ w.heap.size) (hB : Bc < w.heap.size) (W : World) (l : Nat) (o o' : Obj) (hl : w.heap.size ≤ l) (h : W.heap[l]? = some o) (h1 : o.isCells = false) (h2 : o.isWalk = false) : KeepC n₀ Bc W (W.putObj l o') :=
  ⟨belowK_b hn W l o o' hl h h1 h2, (belowK_b (n₀ := w.heap.size) (Nat.le_refl _) W l o o' hl h h1 h2).cell (p := ⟨Bc, 0, none⟩) hB⟩

set_option maxRecDepth 100000 in
set_option maxHeartbeats 2000000 in
theorem nodes1_in (ea : Nat → Addr) (n : Nat) (hn : 1 ≤ n) (l Bc n₀ : Nat) (c : Int) (J Jx : List Int → World → Prop)
    (hY : ∀ pre x W, J pre W → pre ++ [x] <+: listTo c 16 → YieldAt Fence.wide (n - 1) Tryd.prog l #[.int .i64 x] W fun e W' =>
      (e = .returned (.bool true) ∧ J (pre ++ [x]) W' ∧ KeepC n₀ Bc W W') ∨ (e = .returned (.bool false) ∧ Jx (pre ++ [x]) W'))
    (W : World) (hBc : W.cell? ⟨Bc, 0, none⟩ = some (.int .i64 c)) (hG : ∀ W', Below n₀ W W' → Glob W' ea [2]) (h0 : J [] W) :
    CallsIn Fence.wide n Tryd.prog 81 #[.func (.yield l) #[] #[], .pointer (some ⟨Bc, 0, none⟩)] W fun e W' => (∃ v, e = .returned v) ∧
      ((∃ ys, ys = listTo c 16 ∧ J ys W') ∨ (∃ pre, pre <+: listTo c 16 ∧ Jx pre W')) := by
  have HG := Lib.hid hG
  clear hG
  refine callsIn_of_wp Tryd.func81 rfl trivial ?_ rfl
  simp only [Tryd.ntmps81, List.size_toArray, List.length_cons, List.length_nil, Nat.reduceAdd, Nat.reduceSub, Array.replicate_succ, Array.replicate_zero, List.push_toArray, List.append_toArray, List.nil_append, List.cons_append]
  gi_wp2
  gi_loopw [4] (fun i wr => ∃ k : Nat, k ≤ 16 ∧ i = .int .i64 k ∧ J (listTo c k) wr ∧ KeepC n₀ Bc W wr) (fun i _ => 16 - (intOf i).toNat)
  case atStart => exact ⟨0, Nat.zero_le _, rfl, h0, Below.refl _ _, rfl⟩
  case round =>
    obtain ⟨k, hk, rfl, hJs, hkp⟩ := hrel
    have hcx := hkp.2.trans hBc
    have hg := HG.out wr hkp.1
    by_cases hlt : k < 16
    · have KH := Lib.hid (callsIn_wide (n := n - 1) |>.2 (has_any ea c ((k : Int) + 1) wr hg))
      cases hh : hasB c ((k : Int) + 1)
      · have HS := Lib.hid (listTo_no hh)
        rw [hh] at KH
        clear hh hg
        gi_wp2_with (refine ⟨trivial, ?_⟩; gi_at_call 64; refine KH.out.mono ?_; rintro e w' ⟨rfl, rfl⟩)
        refine ⟨fun _ h => (by cases h), ?_⟩
        gi_wp2
        go_roundw
        case rel => exact ⟨k + 1, by omega, by go_num, by rw [HS.out]; exact hJs, hkp⟩
        case measure => simp [intOf]; omega
      · have HS := Lib.hid (listTo_yes hh)
        have HP := Lib.hid (listTo_prefix c (k + 1) 16 (by omega))
        rw [hh] at KH
        obtain ⟨fn, tmps, assign, body, hy, hR⟩ := hY _ ((k : Int) + 1) wr hJs (by rw [← HS.out]; exact HP.out)
        clear hh hg
        gi_wp2_with (refine ⟨trivial, ?_⟩; gi_at_call 64; refine KH.out.mono ?_; rintro e w' ⟨rfl, rfl⟩)
        refine hR.mono ?_
        rintro e W3 (⟨rfl, hJ3, hk3⟩ | ⟨rfl, hJx3⟩)
        · gi_wp2
          go_roundw
          case rel => exact ⟨k + 1, by omega, by go_num, by rw [HS.out]; exact hJ3, keepC_t hkp hk3⟩
          case measure => simp [intOf]; omega
        · gi_wp2
          refine bodyPost_ret (results_none rfl _ _ _) rfl ?_
          exact ⟨⟨_, rfl⟩, .inr ⟨_, by rw [← HS.out]; exact HP.out, hJx3⟩⟩
    · obtain rfl : k = 16 := by omega
      gi_wp2
      go_end0
      exact ⟨⟨_, rfl⟩, .inl ⟨_, rfl, hJs⟩⟩

theorem nodes_any (c : Int) (w : World) :
    Calls Tryd.prog 65 #[.int .i64 c] w fun e w' => e = .returned (.func (.func 81) #[] #[.pointer (some ⟨w.heap.size, 0, none⟩)]) ∧ w' = w.alloc (.cells #[.int .i64 c] 3) := by
  go_enter Tryd.func65, Tryd.ntmps65
  go_wp2
  go_ret
  exact ⟨rfl, rfl⟩

/-- crew.nodes hands back a value that 'SeqStopsK': a crew's nodes, rising; or a prefix of them. -/
theorem nodes_stops (ea : Nat → Addr) (n : Nat) (hn : 1 ≤ n) (Bc n₀ : Nat) (c : Int) (w : World) (hBc : Bc < w.heap.size) (hn₀ : n₀ ≤ w.heap.size) (hc : w.cell? ⟨Bc, 0, none⟩ = some (.int .i64 c)) (hG : ∀ W', Below n₀ w W' → Glob W' ea [2]) :
    SeqStopsK Fence.wide n Tryd.prog 81 #[.pointer (some ⟨Bc, 0, none⟩)] (fun x : Int => #[Value.int .i64 x]) (KeepC n₀ Bc) (fun ys => ys = listTo c 16) (fun pre => pre <+: listTo c 16) 16 w := fun l J Jx W hW _ _ hY h0 =>
  nodes1_in ea n hn l Bc n₀ c J Jx (fun pre x W h hp => hY pre x W h (by have := hp.length_le; have := listTo_length c 16; simp at *; omega)) W ((hW.cell (p := ⟨Bc, 0, none⟩) hBc).trans hc) (fun W' h => hG W' ((hW.mono hn₀).trans h)) h0
theorem nodes_box (ea : Nat → Addr) (n : Nat) (hn : 1 ≤ n) (Bc n₀ : Nat) (c : Int) (w : World) (hBc : Bc < w.heap.size) (hn₀ : n₀ ≤ w.heap.size) (hc : w.cell? ⟨Bc, 0, none⟩ = some (.int .i64 c)) (hG : ∀ W', Below n₀ w W' → Glob W' ea [2]) :
    SeqBox Fence.wide n Tryd.prog 81 #[.pointer (some ⟨Bc, 0, none⟩)] (fun x : Int => #[Value.int .i64 x]) (KeepC n₀ Bc) (fun ys => ys = listTo c 16) (fun pre => pre <+: listTo c 16) none w := fun l J Jx W hW _ _ hY h0 =>
  nodes1_in ea n hn l Bc n₀ c J Jx hY W ((hW.cell (p := ⟨Bc, 0, none⟩) hBc).trans hc) (fun W' h => hG W' ((hW.mono hn₀).trans h)) h0
end Go.Proofs.YtbfocagicagehaaDoor
