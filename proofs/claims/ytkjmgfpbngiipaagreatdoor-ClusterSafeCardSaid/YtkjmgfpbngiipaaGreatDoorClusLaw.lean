/- clustered, of the laws; ClusterAgrees: the law's walk. -/
import Derived.Test.YtkjmgfpbngiipaaGreatDoorClusRun
import Derived.Test.YtkjmgfpbngiipaaGreatDoorClusOne
import Derived.Test.YtkjmgfpbngiipaaGreatDoorClusAct
import Derived.Test.YtkjmgfpbngiipaaGreatDoorRefReadF
namespace Go.Proofs.YtkjmgfpbngiipaaGreatDoor
open Go.RowKit Go.Maps

theorem envC_of {ea : Nat → Addr} {w0 w : World} {L : CL} (hg : Glob w0 ea [1, 2, 3, 4, 5, 6, 7, 8, 9, 10, 11]) (hT : TxtEnv w0) (hb : Below w0.heap.size w0 w) (hL : Fresh w0.heap.size L) : EnvC ea L w := fun W hW => by
  have h := hW.base hb (fun k hk => by
    rcases hk with rfl | rfl | rfl
    · exact hL.cb
    · exact hL.bb
    · exact hL.mb)
  exact ⟨hg.below h, hT.below h⟩
theorem Fresh.base {w0 w W : World} {L : CL} (hL : Fresh w0.heap.size L) (hb : Below w0.heap.size w0 w) (hf : Fr L.own w W) : Below w0.heap.size w0 W := hf.base hb (fun k hk => by
  rcases hk with rfl | rfl | rfl
  · exact hL.cb
  · exact hL.bb
  · exact hL.mb)
theorem Fresh.mono {b b' : Nat} {L : CL} (h : Fresh b L) (hb : b' ≤ b) : Fresh b' L := ⟨Nat.le_trans hb h.cb, Nat.le_trans hb h.bb, Nat.le_trans hb h.mb⟩
def cl1 : CP := ((CP.new [1, 2]).set 1 7).1
def cl2 : CP := (cl1.slotF []).1
theorem cl_set : (CP.new [1, 2]).set 1 7 = (cl1, 0) := by
  have h : ((CP.new [1, 2]).set 1 7).2 = 0 := by decide +kernel
  exact Prod.ext rfl h
theorem cl_slot : cl1.slotF [] = (cl2, 0) := by
  have h : (cl1.slotF []).2 = 0 := by decide +kernel
  exact Prod.ext rfl h
theorem cl_read : (frameF cl1.slotT).1 = 0 ∧ (frameF cl1.slotT).2.value = 7 := by decide +kernel
theorem cl_len : cl1.slotT.length ≤ 100000 := by decide +kernel
theorem cl_on : (cl2.on 2).2 = 0 ∧ (cl2.on 2).1.h.map Ent.value = [7] ∧ cl2.time = 1 := by decide +kernel
theorem cl_inv0 : InvP (CP.new [1, 2]) := InvP.new (by decide +kernel)
theorem cl_inv1 : InvP cl1 := cl_inv0.set 1 7
theorem cl_inv2 : InvP cl2 := cl_inv1.slotF []
set_option maxRecDepth 100000 in
set_option maxHeartbeats 3200000 in
theorem clustered_any (ea : Nat → Addr) (w : World) (hg : Glob w ea [1, 2, 3, 4, 5, 6, 7, 8, 9, 10, 11]) (hT : TxtEnv w) :
    Calls Tryz.prog 12 #[] w fun e w' => e = .returned (.bool true) ∧ Below w.heap.size w w' := by
  have hb0 : Below w.heap.size w (w.alloc (.cells #[.int .i64 1, .int .i64 2] 3)) := (Below.refl _ _).alloc (Nat.le_refl _) _
  have KN := Lib.hid (cNew_ok ea (some ⟨w.heap.size, 0, none⟩) 2 2 [1, 2] _ ((hg.below hb0).sub (by simp)) rfl (RowAt.new_at w (encInts [1, 2]) 3 _ rfl) (by decide +kernel))
  have HG := Lib.hid hg
  have HT := Lib.hid hT
  obtain ⟨ev, hh, hev⟩ : ∃ ev, (cl2.on 2).1.h = [ev] ∧ ev.value = 7 := by
    have h := cl_on.2.1
    obtain ⟨a, l, h1, h2, h3⟩ := List.map_eq_cons_iff.1 h
    have h4 : l = [] := List.map_eq_nil_iff.1 h3
    subst h4
    exact ⟨a, h1, h2⟩
  have HEV := Lib.hid hev
  have HH := Lib.hid hh
  clear hg hT hev hh
  go_enter Tryz.func12, Tryz.ntmps12
  go_wp2_with fail
  refine KN.out.mono ?_
  rintro e w1 ⟨L, rfl, hC1, hL, hb1⟩
  have hv1 := onto hb0 hb1
  have hL := hL.mono hb0.size
  have KS := Lib.hid (cSet_any ea L _ 1 7 w1 ((HG.out.below hv1).sub (by simp)) hC1 (by decide +kernel))
  rw [cl_set] at KS
  rw [show errV ea (cl1, 0).2 = .nilIface from errV_zero ea] at KS
  have HL := Lib.hid hL
  clear hC1 hL hb0 hb1 KN
  go_wp2_with fail
  refine KS.out.mono ?_
  rintro e w2 ⟨rfl, hC2, hF2⟩
  have hv2 := HL.out.base hv1 hF2
  have KL := Lib.hid (cSlot_any ea L cl1 none 0 0 [] w2 (envC_of HG.out HT.out hv2 HL.out) hC2 cl_inv1 rfl (RowAt.nil _ _) (by omega))
  rw [cl_slot] at KL
  rw [show errV ea (cl2, 0).2 = .nilIface from errV_zero ea] at KL
  clear hC2 hF2 hv1 KS
  go_wp2_with fail
  refine KL.out.mono ?_
  rintro e w3 ⟨rfl, hC3, hF3⟩
  have hv3 := HL.out.base hv2 hF3
  have KH := Lib.hid (cHist_any ea L cl2 2 w3 ((HG.out.below hv3).sub (by simp)) hC3 (by decide +kernel) (by rw [HH.out]; exact Nat.le_of_ble_eq_true rfl))
  rw [HH.out, cl_on.1, errV_zero] at KH
  obtain ⟨fr, hfr⟩ : ∃ fr, fr = (frameF cl1.slotT).2 := ⟨_, rfl⟩
  have KF := Lib.hid (fun W : World => readFrame_any cl1.slotT W cl_len)
  rw [cl_read.1, ← hfr] at KF
  have hval : fr.value = 7 := by rw [hfr]; exact cl_read.2
  simp only [Frm.arr, hval] at KF
  rw [show ((0 : Nat) : Int) = 0 from rfl] at KF
  have hct := hC3.cells.2.1
  have hcl := hC3.lt.1
  rw [cl_on.2.2] at hct
  clear hC3 hF3 hv2 KL hfr hval
  go_wp2_with fail
  refine KH.out.mono ?_
  rintro e w4 ⟨a, cap, rfl, hrow, _, hb4⟩
  have hv4 := onto hv3 hb4
  have hct4 := (hb4.cell (p := ⟨L.cb, 1, none⟩) hcl).trans hct
  have hcl4 : L.cb < w4.heap.size := Nat.lt_of_lt_of_le hcl hb4.size
  clear KH hct hcl hv3
  go_wp2_with fail
  refine (KF.out w4).mono ?_
  rintro e w5 ⟨rfl, hb5⟩
  have hb6 : Below w5.heap.size w5 (w5.alloc (.cells #[.int .i64 fr.frm, .int .i64 fr.mem, .int .i64 fr.mode, .int .i64 fr.slot, .int .i64 7] 97)) := (Below.refl _ _).alloc (Nat.le_refl _) _
  have hv6 := onto (onto hv4 hb5) hb6
  obtain ⟨b, off, rfl, hbl, q0, q1, q2, q3⟩ := (hrow.below hb5).ent 0 (Nat.lt_of_lt_of_le Nat.zero_lt_one (Nat.le_refl 1))
  have hct6 := (hb6.cell (p := ⟨L.cb, 1, none⟩) (Nat.lt_of_lt_of_le hcl4 hb5.size)).trans ((hb5.cell (p := ⟨L.cb, 1, none⟩) hcl4).trans hct4)
  have q36 := (hb6.cell (p := ⟨b, off + 0 * 4 + 3, none⟩) hbl).trans q3
  rw [show [ev][0].value = 7 from HEV.out, show off + 0 * 4 + 3 = off + 3 by omega] at q36
  clear q0 q1 q2 q3 hrow hct4 hb4
  go_wp2
  go_ret
  exact ⟨rfl, hv6⟩
end Go.Proofs.YtkjmgfpbngiipaaGreatDoor
