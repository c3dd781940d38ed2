/- The closed fact of buses. -/
import Derived.Test.YtmikeblbfmfimaaDoorHear
namespace Go.Proofs.YtmikeblbfmfimaaDoor
open Go.RowKit

def hi_b : ByteArray := ⟨#[104, 105]⟩
def no_b : ByteArray := ⟨#[110, 111]⟩
def hd_sent : List Snt := [⟨1, 3, no_b⟩, ⟨2, 4, hi_b⟩]
theorem hd_heard : heardL [2, 1] 10 0 hd_sent = [hi_b] := rfl
theorem hd_out : outL [hi_b] [3] = [hi_b, hi_b, ByteArray.empty, hi_b, hi_b, hi_b, hi_b, hi_b, hi_b, hi_b, hi_b, hi_b, hi_b, hi_b, hi_b, hi_b] := rfl
theorem hd_B : hearB 10 0 := by unfold hearB; omega
theorem hd_P : (planF [2, 1]).1 = 0 := by decide

set_option maxRecDepth 100000 in
set_option maxHeartbeats 800000 in
theorem heard_any (ea : Nat → Addr) (w : World) (hg : Glob w ea [5, 7, 4, 2, 9]) :
    Calls Tryd.prog 47 #[] w fun e w' => e = .returned (.bool true) ∧ Below w.heap.size w w' := by
  have HG := Lib.hid hg
  clear hg
  go_enter Tryd.func47, Tryd.ntmps47
  go_wp2_with fail
  have hb0 : Below w.heap.size w (((w.alloc (.cells (encInts [2, 1]).toArray 3)).alloc (.cells (encSents hd_sent).toArray 122)).alloc (.cells (encInts [3]).toArray 3)) := (((Below.refl _ _).alloc (Nat.le_refl _) _).alloc (by simp) _).alloc (by simp; omega) _
  have r1 : RowAt (w.alloc (.cells (encInts [2, 1]).toArray 3)) (some ⟨w.heap.size, 0, none⟩) (encInts [2, 1]) := RowAt.new_at _ _ _ _ rfl
  have r2 : RowAt ((w.alloc (.cells (encInts [2, 1]).toArray 3)).alloc (.cells (encSents hd_sent).toArray 122)) (some ⟨w.heap.size + 1, 0, none⟩) (encSents hd_sent) := RowAt.new_at _ _ _ _ (by simp)
  have r3 : RowAt (((w.alloc (.cells (encInts [2, 1]).toArray 3)).alloc (.cells (encSents hd_sent).toArray 122)).alloc (.cells (encInts [3]).toArray 3)) (some ⟨w.heap.size + 1 + 1, 0, none⟩) (encInts [3]) := RowAt.new_at _ _ _ _ (by simp)
  refine (hear_ok ea (some ⟨w.heap.size, 0, none⟩) (some ⟨w.heap.size + 1, 0, none⟩) (some ⟨w.heap.size + 1 + 1, 0, none⟩) 2 2 2 2 1 1 [2, 1] hd_sent [3] 10 0 _ (HG.out.below hb0) rfl ((r1.below ((Below.refl _ _).alloc (Nat.le_refl _) _)).below ((Below.refl _ _).alloc (Nat.le_refl _) _)) (by omega) rfl (r2.below ((Below.refl _ _).alloc (Nat.le_refl _) _)) rfl r3 (by omega) hd_B hd_P (by omega)).mono ?_
  rintro e w1 ⟨a', cap', rfl, hra, hb1⟩
  rw [hd_heard, hd_out] at hra
  have hbf := hb0.trans (hb1.mono (by simp; omega))
  obtain ⟨b, off, rfl, _, c0⟩ := hra.str 0 (by simp)
  have c0' : w1.cell? ⟨b, off, none⟩ = some (.string { data := #[104, 105] }) := c0
  obtain ⟨b2, off2, e2, _, c2⟩ := hra.str 2 (by simp)
  simp only [Option.some.injEq, Addr.mk.injEq, and_true] at e2
  obtain ⟨rfl, rfl⟩ := e2
  have c2' : w1.cell? ⟨b, off + 2, none⟩ = some (.string { data := #[] }) := c2
  clear hra c0 c2 r1 r2 r3 hb0 hb1
  go_wp2
  go_ret
  exact ⟨rfl, hbf⟩
end Go.Proofs.YtmikeblbfmfimaaDoor
