/- strings.SplitSeq at a separator of one byte: its iterator's contract. -/
import Derived.RangeFuncFrom
import Derived.Maps.AppendAt
import Derived.RangeFuncNested
import Derived.RangeFuncBound
import Derived.RangeFuncCalls
import Derived.RangeFuncBox
import Derived.RangeFuncLeaves
import Derived.Shelf.Abstract
import Derived.Shelf.RegionOpen
import Derived.WalkKit
import Derived.OwnWalkIn
import Derived.TacticsInMore
import Derived.LoopNIn
import Derived.LoopIn
import Derived.Test.YtgghnncgeogemaaGreatDoorProg
import Derived.Test.YtgghnncgeogemaaGreatDoorTxt
import Derived.Test.YtgghnncgeogemaaGreatDoorIterBox
import Derived.Test.YtgghnncgeogemaaGreatDoorShelf
namespace Go.Proofs.YtgghnncgeogemaaGreatDoor
open Go.RowKit Go.Shelf

attribute [local go_sem] Oper.semAt_some

theorem ba_take (l : List UInt8) (k : Nat) : (⟨l.toArray⟩ : ByteArray).extract 0 k = ⟨(l.take k).toArray⟩ := by
  apply ByteArray.ext; apply Array.ext'; simp
theorem ba_drop (l : List UInt8) (k : Nat) : (⟨l.toArray⟩ : ByteArray).extract k l.length = ⟨(l.drop k).toArray⟩ := by
  apply ByteArray.ext; apply Array.ext'; simp; exact List.take_of_length_le (by simp)

/-- What a round of a loop over a text's pieces keeps: what lay below n₀, and the iterator's three boxes. -/
def KeepB (n₀ b0 : Nat) (A B : World) : Prop := Below n₀ A B ∧ ∀ j, j < 3 → B.heap[b0 + j]? = A.heap[b0 + j]?
theorem keepB_t {n₀ b0 : Nat} {A B C : World} (h : KeepB n₀ b0 A B) (k : KeepB n₀ b0 B C) : KeepB n₀ b0 A C := ⟨h.1.trans k.1, fun j hj => (k.2 j hj).trans (h.2 j hj)⟩
theorem keepB_b {n₀ b0 : Nat} {w : World} (hn : n₀ ≤ w.heap.size) (hB : b0 + 3 ≤ w.heap.size) (W : World) (l : Nat) (o o' : Obj) (hl : w.heap.size ≤ l) (h : W.heap[l]? = some o) (h1 : o.isCells = false) (h2 : o.isWalk = false) : KeepB n₀ b0 W (W.putObj l o') :=
  ⟨belowK_b hn W l o o' hl h h1 h2, fun j hj => World.putObj_heap_other (by omega)⟩

/-- The iterator's three boxes: what is left of the text, the separator, and how much of it is kept. -/
def SplitAt (b0 : Nat) (c : UInt8) (l : List UInt8) (W : World) : Prop :=
  Boxed W b0 9 (.string ⟨l.toArray⟩) ∧ Boxed W (b0 + 1) 9 (.string ⟨#[c]⟩) ∧ Boxed W (b0 + 2) 3 (.int .i64 0)
theorem SplitAt.kept {n₀ b0 : Nat} {c : UInt8} {l : List UInt8} {A B : World} (h : SplitAt b0 c l A) (k : KeepB n₀ b0 A B) : SplitAt b0 c l B :=
  ⟨(k.2 0 (by omega)).trans h.1, (k.2 1 (by omega)).trans h.2.1, (k.2 2 (by omega)).trans h.2.2⟩
theorem SplitAt.set {b0 : Nat} {c : UInt8} {l : List UInt8} {A : World} (h : SplitAt b0 c l A) (m : List UInt8) : SplitAt b0 c m (A.setCell ⟨b0, 0, none⟩ (.string ⟨m.toArray⟩)) :=
  ⟨h.1.set _, h.2.1.other (by omega) _, h.2.2.other (by omega) _⟩
/-- How much is left: the loop's measure. -/
def leftIn (b0 : Nat) (W : World) : Nat := match W.cell? ⟨b0, 0, none⟩ with
  | some (.string s) => s.size
  | _ => 0
theorem leftIn_eq {b0 : Nat} {c : UInt8} {l : List UInt8} {W : World} (h : SplitAt b0 c l W) : leftIn b0 W = l.length := by
  rw [leftIn, h.1.cell]; simp [ByteArray.size]

set_option maxRecDepth 100000 in
set_option maxHeartbeats 2000000 in
theorem splitSeq1_in (n : Nat) (hn : 1 ≤ n) (l b0 n₀ : Nat) (c : UInt8) (s : List UInt8) (hs : s.length ≤ 4294967280) (J Jx : List (List UInt8) → World → Prop) (hJ : AbidesBox (some b0) J)
    (hY : ∀ pre (x : List UInt8) W, J pre W → pre ++ [x] <+: cutL c s → YieldAt Fence.wide (n - 1) Tryz.prog l #[.string ⟨x.toArray⟩] W fun e W' =>
      (e = .returned (.bool true) ∧ J (pre ++ [x]) W' ∧ KeepB n₀ b0 W W') ∨ (e = .returned (.bool false) ∧ Jx (pre ++ [x]) W'))
    (W : World) (hB : SplitAt b0 c s W) (h0 : J [] W) :
    CallsIn Fence.wide n Tryz.prog 100 #[.func (.yield l) #[] #[], .pointer (some ⟨b0 + 1, 0, none⟩), .pointer (some ⟨b0, 0, none⟩), .pointer (some ⟨b0 + 2, 0, none⟩)] W fun e W' => (∃ v, e = .returned v) ∧
      ((∃ ys, ys = cutL c s ∧ J ys W') ∨ (∃ pre, pre <+: cutL c s ∧ Jx pre W')) := by
  have HJ := Lib.hid hJ
  clear hJ
  refine callsIn_of_wp Tryz.func100 rfl trivial ?_ rfl
  simp only [Tryz.ntmps100, List.size_toArray, List.length_cons, List.length_nil, Nat.reduceAdd, Nat.reduceSub, Array.replicate_succ, Array.replicate_zero, List.push_toArray, List.append_toArray, List.nil_append, List.cons_append]
  have h1 := hB.1.cell
  have h2 := hB.2.1.cell
  gi_wp2
  clear h1 h2
  gi_loopw [7] (fun _ wr => ∃ (pre : List (List UInt8)) (rest : List UInt8), Hid (cutL c s = pre ++ cutL c rest) ∧ pre.length + rest.length ≤ s.length ∧ SplitAt b0 c rest wr ∧ J pre wr) (fun _ wr => leftIn b0 wr)
  case atStart => exact ⟨[], s, rfl, by simp, hB, h0⟩
  case round =>
    obtain ⟨pre, rest, HC, hlen, hS, hJs⟩ := hrel
    have HS := Lib.hid hS
    have c0 := hS.1.cell
    have c1 := hS.2.1.cell
    have c2 := hS.2.2.cell
    have f0 := hS.1.frozen
    have KI := Lib.hid (callsIn_wide (n := n - 1) |>.2 ((Tryz.strings_Index_one ⟨rest.toArray⟩ c wr)))
    have hge := Lib.indexByte_ge rest c
    clear hS
    by_cases hi : Lib.indexByte rest c = -1
    · have HW : Hid (cutL c s = pre ++ [rest]) := by unfold Hid; rw [HC.out, cutL_miss c rest hi]
      have KI' : Hid (CallsIn Fence.wide (n - 1) Tryz.prog 102 #[.string ⟨rest.toArray⟩, .string ⟨#[c]⟩] wr fun e w' => e = .returned (.int .i64 (-1)) ∧ w' = wr) := by
        unfold Hid; have := KI.out; rw [show (⟨rest.toArray⟩ : ByteArray).data.toList = rest from rfl, hi] at this; exact this
      clear KI hi hge
      obtain ⟨fn, tmps, assign, body, hy, hR⟩ := hY pre rest wr hJs (by rw [HW.out]; exact List.prefix_refl _)
      gi_wp2_with (refine ⟨trivial, ?_⟩; gi_at_call 102; refine KI'.out.mono ?_; rintro e w' ⟨rfl, rfl⟩)
      refine hR.mono ?_
      rintro e W3 (⟨rfl, hJ3, hk3⟩ | ⟨rfl, hJx3⟩)
      · gi_wp2
        go_end0
        exact ⟨⟨_, rfl⟩, .inl ⟨_, HW.out.symm, hJ3⟩⟩
      · gi_wp2
        go_end0
        exact ⟨⟨_, rfl⟩, .inr ⟨_, by rw [HW.out]; exact List.prefix_refl _, hJx3⟩⟩
    · obtain ⟨k, hk⟩ : ∃ k : Nat, Lib.indexByte rest c = k := ⟨(Lib.indexByte rest c).toNat, by omega⟩
      obtain ⟨hkl, hcut⟩ := cutL_hit c rest k hk
      have HW : Hid (cutL c s = (pre ++ [rest.take k]) ++ cutL c (rest.drop (k + 1))) := by unfold Hid; rw [HC.out, hcut, List.append_assoc]; rfl
      have KI' : Hid (CallsIn Fence.wide (n - 1) Tryz.prog 102 #[.string ⟨rest.toArray⟩, .string ⟨#[c]⟩] wr fun e w' => e = .returned (.int .i64 (k : Int)) ∧ w' = wr) := by
        unfold Hid; have := KI.out; rw [show (⟨rest.toArray⟩ : ByteArray).data.toList = rest from rfl, hk] at this; exact this
      clear KI hi hk hcut hge
      obtain ⟨fn, tmps, assign, body, hy, hR⟩ := hY pre (rest.take k) wr hJs (by rw [HW.out]; exact List.prefix_append _ _)
      have e1 := ba_take rest k
      have e2 := ba_drop rest (k + 1)
      have hk0 : (0 : Int) ≤ (k : Int) := by omega
      have hk1 : (k : Int) ≤ (rest.length : Int) := by omega
      gi_wp2_with (refine ⟨trivial, ?_⟩; gi_at_call 102; refine KI'.out.mono ?_; rintro e w' ⟨rfl, rfl⟩)
      refine hR.mono ?_
      rintro e W3 (⟨rfl, hJ3, hk3⟩ | ⟨rfl, hJx3⟩)
      · have hS3 := HS.out.kept hk3
        have HS3 := Lib.hid hS3
        have c0 := hS3.1.cell
        have c1 := hS3.2.1.cell
        have f0 := hS3.1.frozen
        clear hS3
        gi_wp2
        go_roundw
        case rel => exact ⟨_, rest.drop (k + 1), HW.out, by simp; omega, HS3.out.set _, HJ.out _ _ _ (some b0) hJ3 (grownBy_setCell' _ _ _) (fun r e => by rw [← e])⟩
        case measure => rw [leftIn_eq (HS3.out.set _), leftIn_eq HS.out]; simp; omega
      · gi_wp2
        refine bodyPost_ret (results_none rfl _ _ _) rfl ?_
        exact ⟨⟨_, rfl⟩, .inr ⟨_, by rw [HW.out]; exact List.prefix_append _ _, hJx3⟩⟩

/-- The world behind strings.SplitSeq: three boxes more. -/
def splitWorld (w : World) (s : List UInt8) (c : UInt8) : World := ((w.alloc (.cells #[.string ⟨s.toArray⟩] 9)).alloc (.cells #[.string ⟨#[c]⟩] 9)).alloc (.cells #[.int .i64 0] 3)
theorem splitWorld_size (w : World) (s : List UInt8) (c : UInt8) : (splitWorld w s c).heap.size = w.heap.size + 3 := by simp [splitWorld]
theorem splitWorld_below (w : World) (s : List UInt8) (c : UInt8) : Below w.heap.size w (splitWorld w s c) := (((Below.refl _ w).alloc (Nat.le_refl _) _).alloc (by simp) _).alloc (by simp; omega) _
theorem splitWorld_at (w : World) (s : List UInt8) (c : UInt8) : SplitAt w.heap.size c s (splitWorld w s c) := by
  refine ⟨((Boxed.new w _ _).alloc _).alloc _, ?_, ?_⟩
  · have := (Boxed.new (w.alloc (.cells #[.string ⟨s.toArray⟩] 9)) 9 (.string ⟨#[c]⟩)).alloc (.cells #[.int .i64 0] 3)
    rw [World.size_alloc] at this; exact this
  · have := Boxed.new ((w.alloc (.cells #[.string ⟨s.toArray⟩] 9)).alloc (.cells #[.string ⟨#[c]⟩] 9)) 3 (.int .i64 0)
    rw [World.size_alloc, World.size_alloc] at this; exact this
theorem splitSeq0_any (s : List UInt8) (c : UInt8) (w : World) :
    Calls Tryz.prog 76 #[.string ⟨s.toArray⟩, .string ⟨#[c]⟩, .int .i64 0] w fun e w' => e = .returned (.func (.func 100) #[] #[.pointer (some ⟨w.heap.size + 1, 0, none⟩), .pointer (some ⟨w.heap.size, 0, none⟩), .pointer (some ⟨w.heap.size + 2, 0, none⟩)]) ∧ w' = splitWorld w s c := by
  go_enter Tryz.func76, Tryz.ntmps76
  go_wp2
  go_ret
  exact ⟨rfl, rfl⟩
theorem splitSeq_any (s : List UInt8) (c : UInt8) (w : World) :
    Calls Tryz.prog 52 #[.string ⟨s.toArray⟩, .string ⟨#[c]⟩] w fun e w' => e = .returned (.func (.func 100) #[] #[.pointer (some ⟨w.heap.size + 1, 0, none⟩), .pointer (some ⟨w.heap.size, 0, none⟩), .pointer (some ⟨w.heap.size + 2, 0, none⟩)]) ∧ w' = splitWorld w s c := by
  have K := Lib.hid (splitSeq0_any s c w)
  go_enter Tryz.func52, Tryz.ntmps52
  go_wp2_with fail
  refine K.out.mono ?_
  rintro e w' ⟨rfl, rfl⟩
  go_wp2
  go_ret
  exact ⟨rfl, rfl⟩

/-- strings.SplitSeq hands back a value that goes through a text's pieces, in order. -/
theorem splitSeq_stops (n : Nat) (hn : 1 ≤ n) (b0 n₀ : Nat) (c : UInt8) (s : List UInt8) (hs : s.length ≤ 4294967280) (w : World) (hb0 : b0 + 3 ≤ w.heap.size) (hB : SplitAt b0 c s w) :
    SeqBox Fence.wide n Tryz.prog 100 #[.pointer (some ⟨b0 + 1, 0, none⟩), .pointer (some ⟨b0, 0, none⟩), .pointer (some ⟨b0 + 2, 0, none⟩)] (fun x : List UInt8 => #[Value.string ⟨x.toArray⟩]) (KeepB n₀ b0) (fun ys => ys = cutL c s) (fun pre => pre <+: cutL c s) (some b0) w := fun l J Jx W hW hJ _ hY h0 =>
  splitSeq1_in n hn l b0 n₀ c s hs J Jx hJ hY W ⟨(hW.block b0 (by omega)).trans hB.1, (hW.block (b0 + 1) (by omega)).trans hB.2.1, (hW.block (b0 + 2) (by omega)).trans hB.2.2⟩ h0
end Go.Proofs.YtgghnncgeogemaaGreatDoor
