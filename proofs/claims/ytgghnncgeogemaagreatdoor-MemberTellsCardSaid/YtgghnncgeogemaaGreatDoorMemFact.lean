/- The closed fact of membership. -/
import Derived.Test.YtgghnncgeogemaaGreatDoorMemSend
import Derived.Test.YtgghnncgeogemaaGreatDoorEntOps
namespace Go.Proofs.YtgghnncgeogemaaGreatDoor
open Go.RowKit

def mf : Frm := ⟨2, 3, 0, 0, 9⟩
theorem mf_ok : frameE mf = 0 := by decide
theorem mf_mem : (memRF [2, 1] 3 0 0).1 = 0 := by decide
theorem mf_who : whoV [2, 1] 0 = 2 := by decide
theorem mf_frm : sendFrm [2, 1] 3 0 0 2 9 = mf := by decide
theorem mf_sendF : sendF [2, 1] 3 0 0 2 9 = (0, -1) := by
  have h : whoV [2, 1] (0 : Int).toNat = 2 := mf_who
  rw [sendF, if_pos mf_mem, if_pos h, mf_frm, mf_ok]
theorem mf_sendT : sendT [2, 1] 3 0 0 2 9 = frameT mf := by
  have h : whoV [2, 1] (0 : Int).toNat = 2 := mf_who
  rw [sendT, if_pos ⟨mf_mem, h⟩, mf_frm, makeF, if_pos mf_ok]
theorem mf_stepF : stepF [2, 1] 3 0 0 = (0, -1) := by decide
theorem mf_stepOk : stepOk [2, 1] 3 0 0 (frameT mf) = true := by
  rw [stepOk, stepB, make_read mf_ok]
  decide
theorem mf_stepV : stepV [2, 1] 3 0 0 (frameT mf) = (3, 0, 1) := by
  rw [stepV, if_pos (by rw [mf_stepF]), stepM, mf_stepOk]
  decide
theorem mf_stepE : stepE [2, 1] 3 0 0 (frameT mf) = ⟨0, 2, true, 9⟩ := by
  rw [stepE, if_pos (by rw [mf_stepF]), mf_stepOk, make_read mf_ok]
  decide

set_option maxRecDepth 100000 in
set_option maxHeartbeats 800000 in
theorem stepped_any (ea : Nat → Addr) (w : World) (hg : Glob w ea [1, 2, 3, 4, 5, 7, 8, 9]) (hT : TxtEnv w) :
    Calls Tryz.prog 30 #[] w fun e w' => e = .returned (.bool true) ∧ Below w.heap.size w w' := by
  have K1 := Lib.hid (fun (W : World) (a : Option Addr) (hb : Below w.heap.size w W) (hr : RowAt W a (encInts [2, 1])) => send_any ea a 2 2 [2, 1] 3 0 0 2 9 W ((hg.below hb).sub (by simp)) (hT.below hb) rfl hr (by omega))
  have hl := frameT_short mf_ok
  have K2 := Lib.hid (fun (W : World) (a : Option Addr) (hb : Below w.heap.size w W) (hr : RowAt W a (encInts [2, 1])) => step_any ea a 2 2 [2, 1] 3 0 0 (frameT mf) W ((hg.below hb).sub (by simp)) (hT.below hb) rfl hr (by omega) (by omega))
  rw [mf_sendF, mf_sendT] at K1
  rw [mf_stepF, mf_stepV, mf_stepE] at K2
  have HQ : ∀ W : World, (binOp .eql 53 (.agg #[.int .i64 0, .int .i64 2, .bool true, .int .i64 9]) (.agg #[.int .i64 0, .int .i64 2, .bool true, .int .i64 9])).run Tryz.prog W = .ok (.bool true) W := fun W => by
    have h1 := run_ent_eql W ⟨0, 2, true, 9⟩ ⟨0, 2, true, 9⟩
    rw [show entEq ⟨0, 2, true, 9⟩ ⟨0, 2, true, 9⟩ = true from decide_eq_true rfl] at h1
    exact h1
  have HV : ∀ W : World, (binOp .eql 49 (.agg #[.int .i64 3, .int .i64 0, .int .i64 1]) (.agg #[.int .i64 3, .int .i64 0, .int .i64 1])).run Tryz.prog W = .ok (.bool true) W := fun W => by
    rw [run_view_eql]; rfl
  generalize frameT mf = tx at *
  clear hg hT
  have hb0 : Below w.heap.size w (w.alloc (.cells #[.int .i64 3, .int .i64 0, .int .i64 0] 49)) := (Below.refl _ _).alloc (Nat.le_refl _) _
  have b0 := Blok.new w 49 #[.int .i64 3, .int .i64 0, .int .i64 0]
  go_enter Tryz.func30, Tryz.ntmps30
  go_wp2_with fail
  generalize hW0 : w.alloc (.cells #[.int .i64 3, .int .i64 0, .int .i64 0] 49) = W0 at *
  have hz : w.heap.size + 1 = W0.heap.size := by rw [← hW0]; simp
  clear hW0
  refine (K1.out _ _ (hb0.alloc hb0.size _) (RowAt.new_at W0 (encInts [2, 1]) 3 _ hz)).mono ?_
  rintro e w1 ⟨v, rfl, hv, hb1⟩
  obtain rfl : v = .nilIface := hv.nil
  have hv1 := (hb0.alloc hb0.size (.cells (encInts [2, 1]).toArray 3)).trans (hb1.mono (by simp; omega))
  have b0 := (b0.alloc (.cells (encInts [2, 1]).toArray 3)).kept hb1
  have c0 := (b0.alloc (.cells (encInts [2, 1]).toArray 3)).cell 0 rfl
  have c1 := (b0.alloc (.cells (encInts [2, 1]).toArray 3)).cell 1 rfl
  have c2 := (b0.alloc (.cells (encInts [2, 1]).toArray 3)).cell 2 rfl
  simp only [encInts, List.map_cons, List.map_nil] at c0 c1 c2
  clear hb1
  go_wp2_with fail
  refine (K2.out _ _ (hv1.alloc hv1.size _) (RowAt.new_at w1 (encInts [2, 1]) 3 _ rfl)).mono ?_
  rintro e w2 ⟨v, rfl, hv2, hb2⟩
  obtain rfl : v = .nilIface := hv2.nil
  have hv2 := (hv1.alloc hv1.size (.cells (encInts [2, 1]).toArray 3)).trans (hb2.mono (by simp; have := hv1.size; omega))
  simp only [Ent.v]
  go_wp2
  go_ret
  exact ⟨rfl, (hv2.alloc hv2.size _).alloc (by have := hv2.size; simp; omega) _⟩
end Go.Proofs.YtgghnncgeogemaaGreatDoor
