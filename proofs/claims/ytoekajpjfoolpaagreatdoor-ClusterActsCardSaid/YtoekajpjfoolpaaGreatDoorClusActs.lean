/- clustered, of the laws; ClusterAgrees: the law's walk. · a cluster and its model, side by side in memory. · ClusterActs: acts on a cluster, and on its model, answer the same. (Printed by a program of mine.) -/
import Derived.Test.YtoekajpjfoolpaaGreatDoorClusRun
import Derived.Test.YtoekajpjfoolpaaGreatDoorRefReadF
import Derived.Test.YtoekajpjfoolpaaGreatDoorClusTell
import Derived.Test.YtoekajpjfoolpaaGreatDoorRefNew
import Derived.Test.YtoekajpjfoolpaaGreatDoorRefEnd
import Derived.Test.YtoekajpjfoolpaaGreatDoorCoded
import Derived.Test.YtoekajpjfoolpaaGreatDoorRefSlot
import Derived.BigQuiet
import Derived.Deep.QuietTactic
namespace Go.Proofs.YtoekajpjfoolpaaGreatDoor
open Go.RowKit Go.Maps

theorem envC_of {ea : Nat → Addr} {w0 w : World} {L : CL} (hg : Glob w0 ea [1, 2, 3, 4, 5, 6, 7, 8, 9, 10, 11]) (hT : TxtEnv w0) (hb : Below w0.heap.size w0 w) (hL : Fresh w0.heap.size L) : EnvC ea L w := fun W hW => by
  have h := hW.base hb (fun k hk => by
    rcases hk with rfl | rfl | rfl
    · exact hL.cb
    · exact hL.bb
    · exact hL.mb)
  exact ⟨hg.below h, hT.below h⟩
theorem Fresh.base {w0 w W : World} {L : CL} (hL : Fresh w0.heap.size L) (hb : Below w0.heap.size w0 w) (hf : Fr L.own w W) : Below w0.heap.size w0 W := hf.base hb (fun k hk => by
  rcases hk with rfl | rfl | rfl
  · exact hL.cb
  · exact hL.bb
  · exact hL.mb)
theorem Fresh.mono {b b' : Nat} {L : CL} (h : Fresh b L) (hb : b' ≤ b) : Fresh b' L := ⟨Nat.le_trans hb h.cb, Nat.le_trans hb h.bb, Nat.le_trans hb h.mb⟩
def cl1 : CP := ((CP.new [1, 2]).set 1 7).1
def cl2 : CP := (cl1.slotF []).1
theorem cl_set : (CP.new [1, 2]).set 1 7 = (cl1, 0) := by
  have h : ((CP.new [1, 2]).set 1 7).2 = 0 := by decide +kernel
  exact Prod.ext rfl h
theorem cl_slot : cl1.slotF [] = (cl2, 0) := by
  have h : (cl1.slotF []).2 = 0 := by decide +kernel
  exact Prod.ext rfl h
theorem cl_read : (frameF cl1.slotT).1 = 0 ∧ (frameF cl1.slotT).2.value = 7 := by decide +kernel
theorem cl_len : cl1.slotT.length ≤ 100000 := by decide +kernel
theorem cl_on : (cl2.on 2).2 = 0 ∧ (cl2.on 2).1.h.map Ent.value = [7] ∧ cl2.time = 1 := by decide +kernel
theorem cl_inv0 : InvP (CP.new [1, 2]) := InvP.new (by decide +kernel)
theorem cl_inv1 : InvP cl1 := cl_inv0.set 1 7
theorem cl_inv2 : InvP cl2 := cl_inv1.slotF []
set_option maxRecDepth 100000 in
set_option maxHeartbeats 3200000 in
theorem clustered_any (ea : Nat → Addr) (w : World) (hg : Glob w ea [1, 2, 3, 4, 5, 6, 7, 8, 9, 10, 11]) (hT : TxtEnv w) :
    Calls Tryz.prog 8 #[] w fun e w' => e = .returned (.bool true) ∧ Below w.heap.size w w' := by
  have hb0 : Below w.heap.size w (w.alloc (.cells #[.int .i64 1, .int .i64 2] 3)) := (Below.refl _ _).alloc (Nat.le_refl _) _
  have KN := Lib.hid (cNew_ok ea (some ⟨w.heap.size, 0, none⟩) 2 2 [1, 2] _ ((hg.below hb0).sub (by simp)) rfl (RowAt.new_at w (encInts [1, 2]) 3 _ rfl) (by decide +kernel))
  have HG := Lib.hid hg
  have HT := Lib.hid hT
  obtain ⟨ev, hh, hev⟩ : ∃ ev, (cl2.on 2).1.h = [ev] ∧ ev.value = 7 := by
    have h := cl_on.2.1
    obtain ⟨a, l, h1, h2, h3⟩ := List.map_eq_cons_iff.1 h
    have h4 : l = [] := List.map_eq_nil_iff.1 h3
    subst h4
    exact ⟨a, h1, h2⟩
  have HEV := Lib.hid hev
  have HH := Lib.hid hh
  clear hg hT hev hh
  go_enter Tryz.func8, Tryz.ntmps8
  go_wp2_with fail
  refine KN.out.mono ?_
  rintro e w1 ⟨L, rfl, hC1, hL, hb1⟩
  have hv1 := onto hb0 hb1
  have hL := hL.mono hb0.size
  have KS := Lib.hid (cSet_any ea L _ 1 7 w1 ((HG.out.below hv1).sub (by simp)) hC1 (by decide +kernel))
  rw [cl_set] at KS
  rw [show errV ea (cl1, 0).2 = .nilIface from errV_zero ea] at KS
  have HL := Lib.hid hL
  clear hC1 hL hb0 hb1 KN
  go_wp2_with fail
  refine KS.out.mono ?_
  rintro e w2 ⟨rfl, hC2, hF2⟩
  have hv2 := HL.out.base hv1 hF2
  have KL := Lib.hid (cSlot_any ea L cl1 none 0 0 [] w2 (envC_of HG.out HT.out hv2 HL.out) hC2 cl_inv1 rfl (RowAt.nil _ _) (by omega))
  rw [cl_slot] at KL
  rw [show errV ea (cl2, 0).2 = .nilIface from errV_zero ea] at KL
  clear hC2 hF2 hv1 KS
  go_wp2_with fail
  refine KL.out.mono ?_
  rintro e w3 ⟨rfl, hC3, hF3⟩
  have hv3 := HL.out.base hv2 hF3
  have KH := Lib.hid (cHist_any ea L cl2 2 w3 ((HG.out.below hv3).sub (by simp)) hC3 (by decide +kernel) (by rw [HH.out]; exact Nat.le_of_ble_eq_true rfl))
  rw [HH.out, cl_on.1, errV_zero] at KH
  obtain ⟨fr, hfr⟩ : ∃ fr, fr = (frameF cl1.slotT).2 := ⟨_, rfl⟩
  have KF := Lib.hid (fun W : World => readFrame_any cl1.slotT W cl_len)
  rw [cl_read.1, ← hfr] at KF
  have hval : fr.value = 7 := by rw [hfr]; exact cl_read.2
  simp only [Frm.arr, hval] at KF
  rw [show ((0 : Nat) : Int) = 0 from rfl] at KF
  have hct := hC3.cells.2.1
  have hcl := hC3.lt.1
  rw [cl_on.2.2] at hct
  clear hC3 hF3 hv2 KL hfr hval
  go_wp2_with fail
  refine KH.out.mono ?_
  rintro e w4 ⟨a, cap, rfl, hrow, _, hb4⟩
  have hv4 := onto hv3 hb4
  have hct4 := (hb4.cell (p := ⟨L.cb, 1, none⟩) hcl).trans hct
  have hcl4 : L.cb < w4.heap.size := Nat.lt_of_lt_of_le hcl hb4.size
  clear KH hct hcl hv3
  go_wp2_with fail
  refine (KF.out w4).mono ?_
  rintro e w5 ⟨rfl, hb5⟩
  have hb6 : Below w5.heap.size w5 (w5.alloc (.cells #[.int .i64 fr.frm, .int .i64 fr.mem, .int .i64 fr.mode, .int .i64 fr.slot, .int .i64 7] 86)) := (Below.refl _ _).alloc (Nat.le_refl _) _
  have hv6 := onto (onto hv4 hb5) hb6
  obtain ⟨b, off, rfl, hbl, q0, q1, q2, q3⟩ := (hrow.below hb5).ent 0 (Nat.lt_of_lt_of_le Nat.zero_lt_one (Nat.le_refl 1))
  have hct6 := (hb6.cell (p := ⟨L.cb, 1, none⟩) (Nat.lt_of_lt_of_le hcl4 hb5.size)).trans ((hb5.cell (p := ⟨L.cb, 1, none⟩) hcl4).trans hct4)
  have q36 := (hb6.cell (p := ⟨b, off + 0 * 4 + 3, none⟩) hbl).trans q3
  rw [show [ev][0].value = 7 from HEV.out, show off + 0 * 4 + 3 = off + 3 by omega] at q36
  clear q0 q1 q2 q3 hrow hct4 hb4
  go_wp2
  go_ret
  exact ⟨rfl, hv6⟩
end Go.Proofs.YtoekajpjfoolpaaGreatDoor
namespace Go.Proofs.YtoekajpjfoolpaaGreatDoor
open Go.RowKit Go.Maps

/-- The model's blocks are none of the cluster's. -/
theorem own_apart {w : World} {L : CL} {R : RL} {rs : List RN} {c c' : CP} (h : ClusAt w L c) (hr : RefAt w R rs c') : ∀ k, R.own k → ¬ L.own k ∧ k ≠ L.mm := by
  intro k hk
  obtain ⟨cur, hn⟩ := hr.nblk
  have hcell : ∃ cs t, w.heap[k]? = some (.cells cs t (0, 0)) ∧ (t = 111 ∨ t = 114) := by
    rcases hk with rfl | rfl
    · exact ⟨_, _, hr.blk, Or.inl rfl⟩
    · exact ⟨_, _, hn, Or.inr rfl⟩
  obtain ⟨cs, t, e, ht⟩ := hcell
  obtain ⟨a1, _, a3, ⟨q, _, a4⟩, _⟩ := h
  obtain ⟨es, clock, hm⟩ := a4.map
  obtain ⟨es2, clock2, hm2⟩ := a3.2.2.map
  refine ⟨fun ho => ?_, fun ho => ?_⟩
  · rcases ho with rfl | rfl | rfl
    · rw [a1] at e; injection e with e; injection e with _ e; rw [← e] at ht; revert ht; decide
    · rw [a3.1] at e; injection e with e; injection e with _ e; rw [← e] at ht; revert ht; decide
    · rw [hm] at e; injection e with e; cases e
  · subst ho; rw [hm2] at e; injection e with e; cases e
theorem ClusAt.aref {w w' : World} {L : CL} {R : RL} {rs : List RN} {c c' : CP} (h : ClusAt w L c) (hr : RefAt w R rs c') (hf : Fr R.own w w') : ClusAt w' L c :=
  h.kept hf (fun k hk hs => (own_apart h hr k hs).1 hk) (fun hs => (own_apart h hr _ hs).2 rfl) (fun k cur t hk ht hs => by
    obtain ⟨cur2, hn⟩ := hr.nblk
    rcases hs with rfl | rfl
    · rw [show w.heap[R.cb]? = _ from hr.blk] at hk; injection hk with hk; injection hk with _ e; rw [← e] at ht; revert ht; decide
    · rw [show w.heap[R.nb]? = _ from hn] at hk; injection hk with hk; injection hk with _ e; rw [← e] at ht; revert ht; decide)
theorem RefAt.aclus {w w' : World} {L : CL} {R : RL} {rs : List RN} {c c' : CP} (hr : RefAt w R rs c') (h : ClusAt w L c) (far : ∀ b off, R.pa = some ⟨b, off, none⟩ → ¬ L.own b) (hf : Fr L.own w w') : RefAt w' R rs c' :=
  hr.kept hf (own_apart h hr _ (Or.inl rfl)).1 (own_apart h hr _ (Or.inr rfl)).1 far (fun k cur hk => h.rows k cur _ hk (Or.inr rfl))
/-- What the errors' variables and the texts' want, whatever is done behind a base. -/
def EnvB (ea : Nat → Addr) (base : Nat) (w : World) : Prop := ∀ W, Below base w W → GlobC W ea ∧ TxtEnv W
theorem EnvB.later {ea : Nat → Addr} {base : Nat} {w w' : World} (h : EnvB ea base w) (hb : Below base w w') : EnvB ea base w' := fun W hW => h W (hb.trans hW)
theorem EnvB.now {ea : Nat → Addr} {base : Nat} {w : World} (h : EnvB ea base w) : GlobC w ea ∧ TxtEnv w := h w (Below.refl _ _)
theorem EnvB.of {ea : Nat → Addr} {base : Nat} {w0 w : World} (hG : GlobC w0 ea) (hT : TxtEnv w0) (hb : Below w0.heap.size w0 w) (hB : w0.heap.size ≤ base) : EnvB ea base w :=
  fun _ hW => ⟨hG.below (hb.trans (hW.mono hB)), hT.below (hb.trans (hW.mono hB))⟩
theorem Fresh.own {b : Nat} {L : CL} (h : Fresh b L) : ∀ k, L.own k → b ≤ k := fun k hk => by
  rcases hk with rfl | rfl | rfl
  · exact h.cb
  · exact h.bb
  · exact h.mb
theorem EnvB.clus {ea : Nat → Addr} {base : Nat} {w : World} {L : CL} (h : EnvB ea base w) (hb : base ≤ w.heap.size) (hL : Fresh base L) : EnvC ea L w := fun W hW =>
  have h1 := h W (hW.below hb hL.own)
  ⟨h1.1.glob, h1.2⟩
structure BothAt (w : World) (base : Nat) (L : CL) (R : RL) (c : CP) : Prop where
  clus : ClusAt w L c
  ref : ∃ rs, RefAt w R rs c
  inv : InvP c
  lowc : Fresh base L
  lowr : base ≤ R.cb ∧ base ≤ R.nb
  far : ∀ b off, R.pa = some ⟨b, off, none⟩ → ¬ L.own b
theorem BothAt.below {w w' : World} {base : Nat} {L : CL} {R : RL} {c : CP} (h : BothAt w base L R c) (hb : Below w.heap.size w w') : BothAt w' base L R c := by
  obtain ⟨rs, hr⟩ := h.ref
  exact ⟨h.clus.below hb, ⟨rs, hr.below hb⟩, h.inv, h.lowc, h.lowr, h.far⟩
theorem BothAt.lowo {w : World} {base : Nat} {L : CL} {R : RL} {c : CP} (h : BothAt w base L R c) : ∀ k, R.own k → base ≤ k := fun k hk => by
  rcases hk with rfl | rfl
  · exact h.lowr.1
  · exact h.lowr.2
theorem BothAt.size {w : World} {base : Nat} {L : CL} {R : RL} {c : CP} (h : BothAt w base L R c) : base ≤ w.heap.size := by
  obtain ⟨rs, hr⟩ := h.ref
  have := hr.lt.1
  have := h.lowr.1
  omega
/-- The cluster has done a step, and then its model. -/
theorem BothAt.step {w w1 w2 : World} {base : Nat} {L : CL} {R : RL} {c c1 : CP} (h : BothAt w base L R c) (hI : InvP c1) (hC : ClusAt w1 L c1) (hF : Fr L.own w w1) (hR : ∃ rs, RefAt w2 R rs c1) (hF2 : Fr R.own w1 w2) : BothAt w2 base L R c1 ∧ Below base w w2 := by
  obtain ⟨rs, hr⟩ := h.ref
  have hr1 := hr.aclus h.clus h.far hF
  have hb1 := hF.below h.size h.lowc.own
  exact ⟨⟨hC.aref hr1 hF2, hR, hI, h.lowc, h.lowr, h.far⟩, hb1.trans (hF2.below (Nat.le_trans h.size hF.size) h.lowo)⟩
theorem actF_le (c : CP) (a : ActR) (lost : List Int) : (c.actF a lost).2 ≤ 11 := by
  unfold CP.actF
  split
  · unfold CP.set; split
    · simp
    · split <;> simp
  · split
    · unfold CP.turn; split
      · simp
      · split <;> simp
    · split
      · unfold CP.turn; split
        · simp
        · split <;> simp
      · split
        · unfold CP.ask; repeat' split
          all_goals simp
        · unfold CP.slotF; split <;> simp
end Go.Proofs.YtoekajpjfoolpaaGreatDoor
namespace Go.Proofs.YtoekajpjfoolpaaGreatDoor
open Go.RowKit Go.Maps

theorem RowAt.low {w w' : World} {base : Nat} {a : Option Addr} {lost : List Int} (h : RowAt w a (encInts lost)) (hb : Below base w w') (hl : lost ≠ [] → ∀ b off, a = some ⟨b, off, none⟩ → b < base) : RowAt w' a (encInts lost) := by
  by_cases h0 : lost = []
  · exact Or.inl (by rw [h0]; rfl)
  · exact h.off (Fr.at hb) (fun b off e _ hs => by have := hl h0 b off e; omega)
theorem run_vw_neq (W : World) (a b c : Int) : (binOp .neq 84 (.agg #[.int .i64 a, .int .i64 b, .int .i64 c]) (.agg #[.int .i64 a, .int .i64 b, .int .i64 c])).run Tryz.prog W = .ok (.bool false) W := by
  have h1 : (a == a) = true := by simp
  have h2 : (b == b) = true := by simp
  have h3 : (c == c) = true := by simp
  go_simp
theorem rAskE_any (R : RL) (rs : List RN) (c : CP) (n : Int) (w : World) (h : RefAt w R rs c) :
    Calls Tryz.prog 57 #[.pointer (some ⟨R.cb, 0, none⟩), .int .i64 n] w fun e w' => e = .returned (.int .i64 (c.ask n).2) ∧ (∃ rs', RefAt w' R rs' (c.ask n).1) ∧ Fr (fun j => j = R.cb) w w' :=
  (rAsk_any R rs c n w h).mono (fun _ _ h => ⟨h.1, ⟨rs, h.2.1⟩, h.2.2⟩)
theorem rSlotF_any (R : RL) (rs : List RN) (c : CP) (la : Option Addr) (ln lc : Nat) (lost : List Int) (w : World) (h : RefAt w R rs c) (hI : InvP c) (hll : lost.length = ln) (hlr : RowAt w la (encInts lost)) (hlc : ln ≤ 1000) (hlf : lost ≠ [] → ∀ b off, la = some ⟨b, off, none⟩ → b ≠ R.cb ∧ b ≠ R.nb) :
    Calls Tryz.prog 58 #[.pointer (some ⟨R.cb, 0, none⟩), .slice la ln lc] w fun e w' => e = .returned (.tuple #[.string ⟨c.slotT.toArray⟩, .int .i64 ((c.slotF lost).2 : Nat)]) ∧ (∃ rs', RefAt w' R rs' (c.slotF lost).1) ∧ Fr R.own w w' :=
  rSlot_any R rs c la ln lc lost w h hI hll hlr hlc hlf
set_option maxRecDepth 200000 in
set_option maxHeartbeats 6400000 in
theorem act_any (ea : Nat → Addr) (base : Nat) (L : CL) (R : RL) (c : CP) (a : ActR) (w : World) (hE : EnvB ea base w) (h : BothAt w base L R c) (ha : a.Ok w) (hl : a.lost.length ≤ 1000) (hfar : a.lost ≠ [] → ∀ b off, a.la = some ⟨b, off, none⟩ → b < base) :
    Calls Tryz.prog 13 #[.pointer (some ⟨L.cb, 0, none⟩), .pointer (some ⟨R.cb, 0, none⟩), .agg #[.string ⟨a.kind.toArray⟩, .int .i64 a.n, .int .i64 a.m, .slice a.la a.lost.length a.lc]] w fun e w' => e = .returned (.bool true) ∧ BothAt w' base L R (c.actF a a.lost).1 ∧ Below base w w' := by
  obtain ⟨kd, n, m, la, lc, lost⟩ := a
  dsimp only at ha hl hfar ⊢
  have hb0 : Below w.heap.size w (w.alloc (.cells #[.string ⟨kd.toArray⟩, .int .i64 n, .int .i64 m, .slice la lost.length lc] 39)) := (Below.refl _ _).alloc (Nat.le_refl _) _
  have hbA := h.below hb0
  have hv0 : Below base w (w.alloc (.cells #[.string ⟨kd.toArray⟩, .int .i64 n, .int .i64 m, .slice la lost.length lc] 39)) := hb0.mono h.size
  have hEA := hE.later hv0
  have bA : Blok (w.alloc (.cells #[.string ⟨kd.toArray⟩, .int .i64 n, .int .i64 m, .slice la lost.length lc] 39)) w.heap.size 39 #[.string ⟨kd.toArray⟩, .int .i64 n, .int .i64 m, .slice la lost.length lc] := Blok.new w _ _
  have hAL : ¬ L.own w.heap.size := fun hk => by
    obtain ⟨l1, l2, l3, _⟩ := h.clus.lt
    rcases hk with e | e | e <;> omega
  have hAR : ¬ R.own w.heap.size := fun hk => by
    obtain ⟨rs, hr⟩ := h.ref
    have := hr.lt
    rcases hk with e | e <;> omega
  have hAs : w.heap.size < (w.alloc (.cells #[.string ⟨kd.toArray⟩, .int .i64 n, .int .i64 m, .slice la lost.length lc] 39)).heap.size := by simp
  have ha1 := ha.1
  have har := (ha.2.2.1).below hb0
  have hI := h.inv
  clear hE h ha hb0
  by_cases q0 : kd = [115, 101, 116]
  · subst q0
    have hact : c.actF ⟨[115, 101, 116], n, m, la, lc, lost⟩ lost = c.set n m := by unfold CP.actF; rw [if_pos rfl]
    have hle : (c.set n m).2 ≤ 11 := by rw [← hact]; exact actF_le _ _ _
    have hI1 : InvP (c.set n m).1 := hI.set n m
    have HA : Hid ((c.actF ⟨[115, 101, 116], n, m, la, lc, lost⟩ lost).1 = (c.set n m).1) := by unfold Hid; rw [hact]
    clear hact
    go_enter Tryz.func13, Tryz.ntmps13
    go_wp2
    generalize w.alloc (.cells #[.string ⟨([115, 101, 116] : List UInt8).toArray⟩, .int .i64 n, .int .i64 m, .slice la lost.length lc] 39) = W1 at *
    generalize w.heap.size = A at *
    have hD1 : Below W1.heap.size W1 W1.drew := below_drewN (Below.refl _ _) 1
    have hB2 := hbA.below hD1
    have hE2 := hEA.later (hD1.mono hbA.size)
    have bA2 := bA.kept hD1
    obtain ⟨rs, hr2⟩ := hB2.ref
    have A1 := Lib.hid (cSet_any ea L c n m _ ((hE2.now.1.glob).sub (by simp)) hB2.clus ha1)
    have RA := Lib.hid (fun (W : World) (hW : RefAt W R rs c) => rSet_any R rs c n m W hW)
    have CC := Lib.hid (fun (W : World) (hW : Below base W1 W) => coded3_yes ea (errV ea (c.set n m).2) (c.set n m).2 ((c.set n m).2 : Nat) W (hEA W hW).1 (ErrIs.bare ea W _) hle rfl)
    generalize errV ea (c.set n m).2 = ev at *
    generalize ((c.set n m).2 : Int) = ci at *
    generalize (c.set n m).1 = c1 at *
    have kk := bA2.cell 1 rfl
    have ll := bA2.cell 2 rfl
    clear hle
    go_region_held3 (fun w' => w'.cell? ⟨A, 1, none⟩ = some (.int .i64 n) ∧ w'.cell? ⟨A, 2, none⟩ = some (.int .i64 m)) (go_keep)
      (first
        | (go_at_call 39; (with_reducible refine A1.out.mono ?_); rintro e w4 ⟨rfl, hC4, hF4⟩; have hR4 := RefAt.aclus hr2 (BothAt.clus hB2) (BothAt.far hB2) hF4; have b4 := (Fr.block hF4 A (Blok.lt bA2) hAL).trans bA2; have kk := Blok.cell b4 1 rfl; have ll := Blok.cell b4 2 rfl; have A2 := Lib.hid (RA.out w4 hR4))
        | (go_at_call 51; (with_reducible refine A2.out.mono ?_); rintro e w5 ⟨rfl, hR5, hF5⟩; have hF5 : Fr R.own w4 w5 := Fr.mono hF5 (fun _ e => Or.inr e); have hS5 := BothAt.step hB2 hI1 hC4 hF4 hR5 hF5; have b5 := (Fr.block hF5 A (Blok.lt b4) hAR).trans b4; have kk := Blok.cell b5 1 rfl; have ll := Blok.cell b5 2 rfl; have hv5 := Below.trans (Below.mono hD1 (BothAt.size hbA)) hS5.2; have A3 := Lib.hid (CC.out w5 hv5))
        | (go_at_call 22; (with_reducible refine A3.out.mono ?_); rintro e w6 ⟨rfl, hb6⟩; have hB6 := BothAt.below hS5.1 hb6; have hv6 := Below.trans hv5 (Below.mono hb6 (BothAt.size hS5.1)); have b6 := Blok.kept b5 hb6; have kk := Blok.cell b6 1 rfl; have ll := Blok.cell b6 2 rfl))
    go_wp2
    go_ret
    rw [HA.out]
    exact ⟨rfl, hB6, hv0.trans hv6⟩
  have g0 : (kd == [115, 101, 116]) = false := by simpa using q0
  by_cases q1 : kd = [111, 102, 102]
  · subst q1
    have hact : c.actF ⟨[111, 102, 102], n, m, la, lc, lost⟩ lost = c.turn n 0 := by unfold CP.actF; rw [if_neg q0, if_pos rfl]
    have hle : (c.turn n 0).2 ≤ 11 := by rw [← hact]; exact actF_le _ _ _
    have hI1 : InvP (c.turn n 0).1 := hI.turn n 0 (Or.inl rfl)
    have HA : Hid ((c.actF ⟨[111, 102, 102], n, m, la, lc, lost⟩ lost).1 = (c.turn n 0).1) := by unfold Hid; rw [hact]
    clear hact
    go_enter Tryz.func13, Tryz.ntmps13
    go_wp2
    generalize w.alloc (.cells #[.string ⟨([111, 102, 102] : List UInt8).toArray⟩, .int .i64 n, .int .i64 m, .slice la lost.length lc] 39) = W1 at *
    generalize w.heap.size = A at *
    have hD1 : Below W1.heap.size W1 W1.drew := below_drewN (Below.refl _ _) 1
    have hB2 := hbA.below hD1
    have hE2 := hEA.later (hD1.mono hbA.size)
    have bA2 := bA.kept hD1
    obtain ⟨rs, hr2⟩ := hB2.ref
    have A1 := Lib.hid (cOff_any ea L c n _ ((hE2.now.1.glob).sub (by simp)) hB2.clus ha1)
    have RA := Lib.hid (fun (W : World) (hW : RefAt W R rs c) => rOff_any R rs c n W hW)
    have CC := Lib.hid (fun (W : World) (hW : Below base W1 W) => coded3_yes ea (errV ea (c.turn n 0).2) (c.turn n 0).2 ((c.turn n 0).2 : Nat) W (hEA W hW).1 (ErrIs.bare ea W _) hle rfl)
    generalize errV ea (c.turn n 0).2 = ev at *
    generalize ((c.turn n 0).2 : Int) = ci at *
    generalize (c.turn n 0).1 = c1 at *
    have kk := bA2.cell 1 rfl
    clear hle
    go_region_held3 (fun w' => w'.cell? ⟨A, 1, none⟩ = some (.int .i64 n)) (go_keep)
      (first
        | (go_at_call 52; (with_reducible refine A1.out.mono ?_); rintro e w4 ⟨rfl, hC4, hF4⟩; have hR4 := RefAt.aclus hr2 (BothAt.clus hB2) (BothAt.far hB2) hF4; have b4 := (Fr.block hF4 A (Blok.lt bA2) hAL).trans bA2; have kk := Blok.cell b4 1 rfl; have A2 := Lib.hid (RA.out w4 hR4))
        | (go_at_call 53; (with_reducible refine A2.out.mono ?_); rintro e w5 ⟨rfl, hR5, hF5⟩; have hF5 : Fr R.own w4 w5 := Fr.mono hF5 (fun _ e => Or.inr e); have hS5 := BothAt.step hB2 hI1 hC4 hF4 hR5 hF5; have b5 := (Fr.block hF5 A (Blok.lt b4) hAR).trans b4; have kk := Blok.cell b5 1 rfl; have hv5 := Below.trans (Below.mono hD1 (BothAt.size hbA)) hS5.2; have A3 := Lib.hid (CC.out w5 hv5))
        | (go_at_call 22; (with_reducible refine A3.out.mono ?_); rintro e w6 ⟨rfl, hb6⟩; have hB6 := BothAt.below hS5.1 hb6; have hv6 := Below.trans hv5 (Below.mono hb6 (BothAt.size hS5.1)); have b6 := Blok.kept b5 hb6; have kk := Blok.cell b6 1 rfl))
    go_wp2
    go_ret
    rw [HA.out]
    exact ⟨rfl, hB6, hv0.trans hv6⟩
  have g1 : (kd == [111, 102, 102]) = false := by simpa using q1
  by_cases q2 : kd = [111, 110]
  · subst q2
    have hact : c.actF ⟨[111, 110], n, m, la, lc, lost⟩ lost = c.turn n 1 := by unfold CP.actF; rw [if_neg q0, if_neg q1, if_pos rfl]
    have hle : (c.turn n 1).2 ≤ 11 := by rw [← hact]; exact actF_le _ _ _
    have hI1 : InvP (c.turn n 1).1 := hI.turn n 1 (Or.inr rfl)
    have HA : Hid ((c.actF ⟨[111, 110], n, m, la, lc, lost⟩ lost).1 = (c.turn n 1).1) := by unfold Hid; rw [hact]
    clear hact
    go_enter Tryz.func13, Tryz.ntmps13
    go_wp2
    generalize w.alloc (.cells #[.string ⟨([111, 110] : List UInt8).toArray⟩, .int .i64 n, .int .i64 m, .slice la lost.length lc] 39) = W1 at *
    generalize w.heap.size = A at *
    have hD1 : Below W1.heap.size W1 W1.drew := below_drewN (Below.refl _ _) 1
    have hB2 := hbA.below hD1
    have hE2 := hEA.later (hD1.mono hbA.size)
    have bA2 := bA.kept hD1
    obtain ⟨rs, hr2⟩ := hB2.ref
    have A1 := Lib.hid (cOn_any ea L c n _ ((hE2.now.1.glob).sub (by simp)) hB2.clus ha1)
    have RA := Lib.hid (fun (W : World) (hW : RefAt W R rs c) => rOn_any R rs c n W hW (fun i x hf => (hI.node i x hf).st))
    have CC := Lib.hid (fun (W : World) (hW : Below base W1 W) => coded3_yes ea (errV ea (c.turn n 1).2) (c.turn n 1).2 ((c.turn n 1).2 : Nat) W (hEA W hW).1 (ErrIs.bare ea W _) hle rfl)
    generalize errV ea (c.turn n 1).2 = ev at *
    generalize ((c.turn n 1).2 : Int) = ci at *
    generalize (c.turn n 1).1 = c1 at *
    have kk := bA2.cell 1 rfl
    clear hle
    go_region_held3 (fun w' => w'.cell? ⟨A, 1, none⟩ = some (.int .i64 n)) (go_keep)
      (first
        | (go_at_call 54; (with_reducible refine A1.out.mono ?_); rintro e w4 ⟨rfl, hC4, hF4⟩; have hR4 := RefAt.aclus hr2 (BothAt.clus hB2) (BothAt.far hB2) hF4; have b4 := (Fr.block hF4 A (Blok.lt bA2) hAL).trans bA2; have kk := Blok.cell b4 1 rfl; have A2 := Lib.hid (RA.out w4 hR4))
        | (go_at_call 55; (with_reducible refine A2.out.mono ?_); rintro e w5 ⟨rfl, hR5, hF5⟩; have hF5 : Fr R.own w4 w5 := Fr.mono hF5 (fun _ e => Or.inr e); have hS5 := BothAt.step hB2 hI1 hC4 hF4 hR5 hF5; have b5 := (Fr.block hF5 A (Blok.lt b4) hAR).trans b4; have kk := Blok.cell b5 1 rfl; have hv5 := Below.trans (Below.mono hD1 (BothAt.size hbA)) hS5.2; have A3 := Lib.hid (CC.out w5 hv5))
        | (go_at_call 22; (with_reducible refine A3.out.mono ?_); rintro e w6 ⟨rfl, hb6⟩; have hB6 := BothAt.below hS5.1 hb6; have hv6 := Below.trans hv5 (Below.mono hb6 (BothAt.size hS5.1)); have b6 := Blok.kept b5 hb6; have kk := Blok.cell b6 1 rfl))
    go_wp2
    go_ret
    rw [HA.out]
    exact ⟨rfl, hB6, hv0.trans hv6⟩
  have g2 : (kd == [111, 110]) = false := by simpa using q2
  by_cases q3 : kd = [97, 115, 107]
  · subst q3
    have hact : c.actF ⟨[97, 115, 107], n, m, la, lc, lost⟩ lost = c.ask n := by unfold CP.actF; rw [if_neg q0, if_neg q1, if_neg q2, if_pos rfl]
    have hle : (c.ask n).2 ≤ 11 := by rw [← hact]; exact actF_le _ _ _
    have hI1 : InvP (c.ask n).1 := hI.ask n
    have HA : Hid ((c.actF ⟨[97, 115, 107], n, m, la, lc, lost⟩ lost).1 = (c.ask n).1) := by unfold Hid; rw [hact]
    clear hact
    go_enter Tryz.func13, Tryz.ntmps13
    go_wp2
    generalize w.alloc (.cells #[.string ⟨([97, 115, 107] : List UInt8).toArray⟩, .int .i64 n, .int .i64 m, .slice la lost.length lc] 39) = W1 at *
    generalize w.heap.size = A at *
    have hD1 : Below W1.heap.size W1 W1.drew := below_drewN (Below.refl _ _) 1
    have hB2 := hbA.below hD1
    have hE2 := hEA.later (hD1.mono hbA.size)
    have bA2 := bA.kept hD1
    obtain ⟨rs, hr2⟩ := hB2.ref
    have A1 := Lib.hid (cAsk_any ea L c n _ ((hE2.now.1.glob).sub (by simp)) hB2.clus hI.now hI.asked)
    have RA := Lib.hid (fun (W : World) (hW : RefAt W R rs c) => rAskE_any R rs c n W hW)
    have CC := Lib.hid (fun (W : World) (hW : Below base W1 W) => coded3_yes ea (errV ea (c.ask n).2) (c.ask n).2 ((c.ask n).2 : Nat) W (hEA W hW).1 (ErrIs.bare ea W _) hle rfl)
    generalize errV ea (c.ask n).2 = ev at *
    generalize ((c.ask n).2 : Int) = ci at *
    generalize (c.ask n).1 = c1 at *
    have kk := bA2.cell 1 rfl
    clear hle
    go_region_held3 (fun w' => w'.cell? ⟨A, 1, none⟩ = some (.int .i64 n)) (go_keep)
      (first
        | (go_at_call 56; (with_reducible refine A1.out.mono ?_); rintro e w4 ⟨rfl, hC4, hF4⟩; have hR4 := RefAt.aclus hr2 (BothAt.clus hB2) (BothAt.far hB2) hF4; have b4 := (Fr.block hF4 A (Blok.lt bA2) hAL).trans bA2; have kk := Blok.cell b4 1 rfl; have A2 := Lib.hid (RA.out w4 hR4))
        | (go_at_call 57; (with_reducible refine A2.out.mono ?_); rintro e w5 ⟨rfl, hR5, hF5⟩; have hF5 : Fr R.own w4 w5 := Fr.mono hF5 (fun _ e => Or.inl e); have hS5 := BothAt.step hB2 hI1 hC4 hF4 hR5 hF5; have b5 := (Fr.block hF5 A (Blok.lt b4) hAR).trans b4; have kk := Blok.cell b5 1 rfl; have hv5 := Below.trans (Below.mono hD1 (BothAt.size hbA)) hS5.2; have A3 := Lib.hid (CC.out w5 hv5))
        | (go_at_call 22; (with_reducible refine A3.out.mono ?_); rintro e w6 ⟨rfl, hb6⟩; have hB6 := BothAt.below hS5.1 hb6; have hv6 := Below.trans hv5 (Below.mono hb6 (BothAt.size hS5.1)); have b6 := Blok.kept b5 hb6; have kk := Blok.cell b6 1 rfl))
    go_wp2
    go_ret
    rw [HA.out]
    exact ⟨rfl, hB6, hv0.trans hv6⟩
  have g3 : (kd == [97, 115, 107]) = false := by simpa using q3
  have HA : Hid ((c.actF ⟨kd, n, m, la, lc, lost⟩ lost).1 = (c.slotF lost).1) := by unfold Hid CP.actF; rw [if_neg q0, if_neg q1, if_neg q2, if_neg q3]
  have hle : (c.slotF lost).2 ≤ 11 := by unfold CP.slotF; split <;> simp
  have hI1 : InvP (c.slotF lost).1 := hI.slotF lost
  obtain ⟨rs, hrA⟩ := hbA.ref
  have A1 := Lib.hid (cSlot_any ea L c la lost.length lc lost _ (hEA.clus hbA.size hbA.lowc) hbA.clus hI rfl har hl)
  have RA := Lib.hid (fun (W : World) (hW : RefAt W R rs c) (hrw : RowAt W la (encInts lost)) => (rSlotF_any R rs c la lost.length lc lost W hW hI rfl hrw hl (fun h0 b off e => by
    have h1 := hfar h0 b off e
    have h2 := hbA.lowr
    exact ⟨by omega, by omega⟩)))
  have CC := Lib.hid (fun (W : World) (hW : Below base (w.alloc (.cells #[.string ⟨kd.toArray⟩, .int .i64 n, .int .i64 m, .slice la lost.length lc] 39)) W) => coded3_yes ea (errV ea (c.slotF lost).2) (c.slotF lost).2 ((c.slotF lost).2 : Nat) W (hEA W hW).1 (ErrIs.bare ea W _) hle rfl)
  have HFAR := Lib.hid hfar
  have HAR := Lib.hid har
  have HI1 := Lib.hid hI1
  have HBA := Lib.hid hbA
  have HRA := Lib.hid hrA
  have HV0 := Lib.hid hv0
  have HLA := Lib.hid hAL
  have HLR := Lib.hid hAR
  have HbA := Lib.hid bA
  have x3 := bA.cell 3 rfl
  clear hle q0 q1 q2 q3 hEA hfar har hI1 hbA hrA hv0 hAL hAR bA hI
  generalize errV ea (c.slotF lost).2 = ev at *
  generalize ((c.slotF lost).2 : Int) = ci at *
  generalize (c.slotF lost).1 = c1 at *
  generalize c.slotT = st at *
  have hss : (st == st) = true := by simp
  go_enter Tryz.func13, Tryz.ntmps13
  go_wp2_with fail
  refine A1.out.mono ?_
  rintro e w4 ⟨rfl, hC4, hF4⟩
  have hR4 := HRA.out.aclus HBA.out.clus HBA.out.far hF4
  have b4 := (hF4.block w.heap.size (Blok.lt HbA.out) HLA.out).trans HbA.out
  have x4 := Blok.cell b4 3 rfl
  have hv4 := hF4.below HBA.out.size HBA.out.lowc.own
  have A2 := Lib.hid (RA.out w4 hR4 (HAR.out.low hv4 HFAR.out))
  have HC4 := Lib.hid hC4
  have HF4 := Lib.hid hF4
  clear hC4 hF4 hR4 b4 hv4
  go_wp2_with fail
  refine A2.out.mono ?_
  rintro e w5 ⟨rfl, hR5, hF5⟩
  have hS5 := BothAt.step HBA.out HI1.out HC4.out HF4.out hR5 hF5
  have A3 := Lib.hid (CC.out w5 hS5.2)
  have HS5 := Lib.hid hS5
  clear hR5 hF5 hS5
  go_wp2_with fail
  refine A3.out.mono ?_
  rintro e w6 ⟨rfl, hb6⟩
  have hB6 := HS5.out.1.below hb6
  have hv6 := HS5.out.2.trans (hb6.mono HS5.out.1.size)
  go_wp2
  go_ret
  rw [HA.out]
  exact ⟨rfl, hB6, HV0.out.trans hv6⟩
theorem on_hist {c : CP} (hI : InvP c) (i : Int) : (c.on i).1.h.length ≤ 200 ∧ (c.on i).2 ≤ 11 := by
  have ht := hI.time
  cases hf : c.f i with
  | none => have e : c.on i = (NP0, 4) := by unfold CP.on; rw [hf]
            rw [e]; exact ⟨Nat.zero_le _, by decide⟩
  | some x =>
    by_cases h2 : x.st = 2
    · have e : c.on i = (x, 0) := by unfold CP.on; rw [hf]; exact if_pos h2
      have h3 := ((hI.node i x hf).on h2).2.2.2.2.1
      rw [e]; exact ⟨by dsimp only; omega, Nat.zero_le _⟩
    · have e : c.on i = (NP0, 11) := by unfold CP.on; rw [hf]; exact if_neg h2
      rw [e]; exact ⟨Nat.zero_le _, Nat.le_refl _⟩
theorem int_wfC {n : Int} (h : -9223372036854775808 ≤ n ∧ n ≤ 9223372036854775807) : (Lit.int .i64 n).wf = true := by
  have h1 : IntKind.i64.min = -9223372036854775808 := by decide +kernel
  have h2 : IntKind.i64.max = 9223372036854775807 := by decide +kernel
  simp only [Lit.wf, Bool.and_eq_true, decide_eq_true_eq, h1, h2]
  exact h
set_option maxRecDepth 200000 in
set_option maxHeartbeats 6400000 in
theorem sameClus_any (ea : Nat → Addr) (base : Nat) (L : CL) (R : RL) (c : CP) (w : World) (hE : EnvB ea base w) (h : BothAt w base L R c) :
    Calls Tryz.prog 14 #[.pointer (some ⟨L.cb, 0, none⟩), .pointer (some ⟨R.cb, 0, none⟩)] w fun e w' => e = .returned (.bool true) ∧ Below w.heap.size w w' := by
  obtain ⟨rs, hr⟩ := h.ref
  have hI := h.inv
  have hcl := h.clus
  have hbs := h.size
  have hst : ∀ i x, c.f i = some x → x.st = 0 ∨ x.st = 1 ∨ x.st = 2 := fun i x hf => (hI.node i x hf).st
  have KT := Lib.hid (fun (W : World) (hb : Below w.heap.size w W) => cTime_any L c W (hcl.below hb))
  have KC := Lib.hid (fun (W : World) (hb : Below w.heap.size w W) => cCrew_any ea L c W (((hE W (hb.mono hbs)).1.glob).sub (by simp)) (hcl.below hb) hI.dom (planF_ok hI.plan).2.2.2)
  have KRC := Lib.hid (fun (W : World) (hb : Below w.heap.size w W) => rCrew_any R rs c W (hr.below hb) hI.dom (planF_ok hI.plan).2.2.2)
  have KV := Lib.hid (fun (W : World) (j : Int) (hb : Below w.heap.size w W) (hj : (Lit.int .i64 j).wf = true) => cView_any ea L c j W (((hE W (hb.mono hbs)).1.glob).sub (by simp)) (hcl.below hb) hj)
  have KH := Lib.hid (fun (W : World) (j : Int) (hb : Below w.heap.size w W) (hj : (Lit.int .i64 j).wf = true) => cHist_any ea L c j W (((hE W (hb.mono hbs)).1.glob).sub (by simp)) (hcl.below hb) hj (by have := (on_hist hI j).1; omega))
  have KA := Lib.hid (fun (W : World) (j : Int) (hb : Below w.heap.size w W) => rActive_any R rs c j W (hr.below hb) hst)
  have KS := Lib.hid (fun (W : World) (j : Int) (hb : Below w.heap.size w W) (hj : (Lit.int .i64 j).wf = true) => cState_any L c j W (hcl.below hb) hj (fun x hf => hst j x hf))
  have KRS := Lib.hid (fun (W : World) (j : Int) (hb : Below w.heap.size w W) => rState_any R rs c j W (hr.below hb) hst)
  have KD := Lib.hid (fun (W : World) (k : Nat) (hb : Below w.heap.size w W) (hk : k ≤ 11) => coded3_yes ea (errV ea k) k (k : Nat) W (hE W (hb.mono hbs)).1 (ErrIs.bare ea W k) hk rfl)
  have HON := Lib.hid (fun j => on_hist hI j)
  have cc1 := hr.cells.2.1
  have hlr := hr.lt.1
  have tq : ((c.time : Int) != (c.time : Int)) = false := by simp
  have uq : ((c.crewN : Int) != (c.crewN : Int)) = false := by simp
  have hD1 : Below w.heap.size w w.drew := below_drewN (Below.refl _ _) 1
  have A1 := Lib.hid (KT.out w.drew hD1)
  have A2 := Lib.hid (KC.out w.drew hD1)
  have HD1 := Lib.hid hD1
  clear hE h hr hI hcl hst hD1
  generalize (c.time : Int) = tm at *
  generalize ((c.crewN : Nat) : Int) = cn at *
  go_enter Tryz.func14, Tryz.ntmps14
  go_wp2
  go_region_held3 (fun w' => w'.cell? ⟨R.cb, 1, none⟩ = some (.int .i64 tm)) (go_keep)
    (first
      | (go_at_call 43; (with_reducible refine A1.out.mono ?_); rintro e w4 ⟨rfl, rfl⟩)
      | (go_at_call 59; (with_reducible refine A2.out.mono ?_); rintro e w5 ⟨rfl, hb5⟩; have hv5 := onto HD1.out hb5; have kk : w5.cell? ⟨R.cb, 1, none⟩ = some (.int .i64 tm) := (Below.cell hv5 (p := ⟨R.cb, 1, none⟩) hlr).trans cc1; have A3 := Lib.hid (KRC.out w5 hv5))
      | (go_at_call 60; (with_reducible refine A3.out.mono ?_); rintro e w6 ⟨rfl, hb6⟩; have hv6 := onto hv5 hb6; have kk : w6.cell? ⟨R.cb, 1, none⟩ = some (.int .i64 tm) := (Below.cell hv6 (p := ⟨R.cb, 1, none⟩) hlr).trans cc1))
  have HV6 := Lib.hid hv6
  clear kk A1 A2 A3 hb5 hv5 hb6 hv6 cc1 tq uq KT KC KRC HD1
  go_wp2
  go_loopw [5] (fun i wr => ∃ k : Nat, k ≤ 19 ∧ i = .int .i64 ((k : Int) - 1) ∧ Hid (Below w.heap.size w wr)) (fun i _ => 19 - (intOf i + 1).toNat)
  case atStart => exact ⟨0, by omega, rfl, HV6⟩
  case round =>
    obtain ⟨k, hk, rfl, HB⟩ := hrel
    clear HV6
    by_cases hlt : k < 19
    · obtain ⟨j, hj⟩ : ∃ j : Int, j = (k : Int) - 1 := ⟨_, rfl⟩
      rw [← hj]
      have hjw : (Lit.int .i64 j).wf = true := int_wfC (by omega)
      have dj : decide (j ≤ 17) = true := decide_eq_true (by omega)
      have hj1 : -1 ≤ j ∧ j ≤ 17 := by omega
      have KVj := Lib.hid (fun (W : World) (hb : Below w.heap.size w W) => KV.out W j hb hjw)
      have KHj := Lib.hid (fun (W : World) (hb : Below w.heap.size w W) => KH.out W j hb hjw)
      have KAj : Hid (∀ W : World, Below w.heap.size w W → Calls Tryz.prog 62 #[.pointer (some ⟨R.cb, 0, none⟩), .int .i64 j] W fun e w' => ∃ (i : Int) (la : Option Addr) (lc : Nat), e = .returned (.tuple #[.agg #[.int .i64 i, .int .i64 (c.on j).1.st, .int .i64 (c.on j).1.val, .int .i64 (c.on j).1.m, .int .i64 (c.on j).1.d, .int .i64 (c.on j).1.s, .slice la (c.on j).1.h.length lc], .int .i64 (c.on j).2]) ∧ RowAt w' la (encEnts (c.on j).1.h) ∧ Below W.heap.size W w') := fun W hb => KA.out W j hb
      have KSj := Lib.hid (fun (W : World) (hb : Below w.heap.size w W) => KS.out W j hb hjw)
      have KRSj := Lib.hid (fun (W : World) (hb : Below w.heap.size w W) => KRS.out W j hb)
      obtain ⟨hh, hq⟩ := HON.out j
      have HH := Lib.hid hh
      have KDj := Lib.hid (fun (W : World) (hb : Below w.heap.size w W) => KD.out W (c.on j).2 hb hq)
      have HJ := Lib.hid hj
      clear hq hj hjw
      generalize c.stT j = sj at *
      generalize (c.on j).1.h = hs at *
      generalize (c.on j).1.m = vm at *
      generalize (c.on j).1.d = vd at *
      generalize (c.on j).1.s = vs at *
      generalize (c.on j).1.st = v1 at *
      generalize (c.on j).1.val = v2 at *
      generalize errV ea (c.on j).2 = ev at *
      generalize ((c.on j).2 : Int) = ci at *
      have KE := Lib.hid (fun (W : World) (a a2 : Option Addr) (cp cp2 : Nat) (hr : RowAt W a (encEnts hs)) (hr2 : RowAt W a2 (encEnts hs)) => sameEnts_any a a2 hs.length cp hs.length cp2 hs hs W rfl hr rfl hr2 (by omega))
      simp only [decide_true] at KE
      have hne := fun W => run_vw_neq W vm vd vs
      have hse : (sj == sj) = true := by simp
      have K1 := Lib.hid (KVj.out wr HB.out)
      go_wp2_with fail
      refine K1.out.mono ?_
      rintro e w1 ⟨rfl, hb1⟩
      have hv1 := (onto HB.out hb1).alloc (onto HB.out hb1).size (.cells #[.int .i64 vm, .int .i64 vd, .int .i64 vs] 84)
      have b1 := Blok.new w1 84 #[.int .i64 vm, .int .i64 vd, .int .i64 vs]
      have K2 := Lib.hid (KHj.out _ hv1)
      clear K1 hb1
      go_wp2_with fail
      refine K2.out.mono ?_
      rintro e w2 ⟨a2, cp2, rfl, hrow2, hcp2, hb2⟩
      have hv2 := onto hv1 hb2
      have b2 := b1.kept hb2
      have K3 := Lib.hid (KAj.out w2 hv2)
      clear K2 b1 hv1 hcp2
      go_wp2_with fail
      refine K3.out.mono ?_
      rintro e w3 ⟨i3, a3, cp3, rfl, hrow3, hb3⟩
      have hv3 := (onto hv2 hb3).alloc (onto hv2 hb3).size (.cells #[.int .i64 i3, .int .i64 v1, .int .i64 v2, .int .i64 vm, .int .i64 vd, .int .i64 vs, .slice a3 hs.length cp3] 114)
      have hA3 : Below w3.heap.size w3 (w3.alloc (.cells #[.int .i64 i3, .int .i64 v1, .int .i64 v2, .int .i64 vm, .int .i64 vd, .int .i64 vs, .slice a3 hs.length cp3] 114)) := (Below.refl _ _).alloc (Nat.le_refl _) _
      have b3 := (b2.kept hb3).kept hA3
      have r2 := (hrow2.below hb3).below hA3
      have r3 := hrow3.below hA3
      have d3 := Blok.new w3 114 #[.int .i64 i3, .int .i64 v1, .int .i64 v2, .int .i64 vm, .int .i64 vd, .int .i64 vs, .slice a3 hs.length cp3]
      have K4 := Lib.hid (KSj.out _ hv3)
      clear K3 b2 hv2 hrow2 hrow3
      go_wp2_with fail
      generalize hW4 : w3.alloc (.cells #[.int .i64 i3, .int .i64 v1, .int .i64 v2, .int .i64 vm, .int .i64 vd, .int .i64 vs, .slice a3 hs.length cp3] 114) = W4 at *
      clear hW4 hA3
      refine K4.out.mono ?_
      rintro e w5 ⟨rfl, hb5⟩
      have hv5 := onto hv3 hb5
      have K5 := Lib.hid (KRSj.out _ hv5)
      go_wp2_with fail
      refine K5.out.mono ?_
      rintro e w6 ⟨rfl, hb6⟩
      have hv6 := onto hv5 hb6
      have K6 := Lib.hid (KDj.out _ hv6)
      go_wp2_with fail
      refine K6.out.mono ?_
      rintro e w7 ⟨rfl, hb7⟩
      have hv7 := onto hv6 hb7
      have K7 := Lib.hid (KDj.out _ hv7)
      go_wp2_with fail
      refine K7.out.mono ?_
      rintro e w8 ⟨rfl, hb8⟩
      have hv8 := onto hv7 hb8
      have b8 := (((b3.kept hb5).kept hb6).kept hb7).kept hb8
      have d8 := (((d3.kept hb5).kept hb6).kept hb7).kept hb8
      have r28 := (((r2.below hb5).below hb6).below hb7).below hb8
      have r38 := (((r3.below hb5).below hb6).below hb7).below hb8
      have x0 := b8.cell 0 rfl
      have x1 := b8.cell 1 rfl
      have x2 := b8.cell 2 rfl
      have y3 := d8.cell 3 rfl
      have y4 := d8.cell 4 rfl
      have y5 := d8.cell 5 rfl
      have y6 := d8.cell 6 rfl
      have K8 := Lib.hid (KE.out _ _ _ cp2 cp3 r28 r38)
      clear K4 K5 K6 K7 b3 d3 r2 r3 hb5 hb6 hb7 hb8 hv3 hv5 hv6 hv7 b8 d8 r28 r38
      go_wp2_with fail
      refine K8.out.mono ?_
      rintro e w9 ⟨rfl, hb9⟩
      have HV9 := Lib.hid (onto hv8 hb9)
      go_wp2
      go_roundw
      case rel => exact ⟨k + 1, by omega, by rw [show j + 1 = ((k + 1 : Nat) : Int) - 1 by have := HJ.out; omega], HV9⟩
      case measure => simp [intOf]; omega
    · obtain rfl : k = 19 := by omega
      go_wp2
      go_ret
      exact ⟨rfl, HB.out⟩
theorem ok_far {w : World} {a : ActR} (h : a.Ok w) : a.lost ≠ [] → ∀ b off, a.la = some ⟨b, off, none⟩ → b < w.heap.size := fun h0 b off e => by
  rcases h.2.2.1 with h1 | ⟨b', off', e', hlt, _⟩
  · exact absurd (by simpa [encInts] using h1) h0
  · rw [e'] at e
    injection e with e; injection e with e1
    omega
theorem row_far {w : World} {a : Option Addr} {l : List Int} (h : RowAt w a (encInts l)) (h0 : 0 < l.length) {b off : Nat} (e : a = some ⟨b, off, none⟩) : b < w.heap.size := by
  rcases h with h1 | ⟨b', off', e', hlt, _⟩
  · have : l = [] := by simpa [encInts] using h1
    rw [this] at h0; cases h0
  · rw [e'] at e
    injection e with e; injection e with e1
    omega
set_option maxRecDepth 200000 in
set_option maxHeartbeats 6400000 in
theorem walk_ClusterActs (ea : Nat → Addr) (a : Option Addr) (n cap : Nat) (l : List Int) (a2 : Option Addr) (n2 cap2 : Nat) (acts : List ActR) (w : World) (hG : GlobC w ea) (hT : TxtEnv w)
    (hn : l.length = n) (hr : RowAt w a (encInts l)) (_hc : n ≤ cap) (hm : n ≤ 4611686018427387904) (hn2 : acts.length = n2) (hr2 : RowAt w a2 (encActs acts)) (_hc2 : n2 ≤ cap2) (hm2 : n2 ≤ 4611686018427387904) (hok : ∀ e ∈ acts, e.Ok w) :
    Calls Tryz.prog 3 #[.slice a n cap, .slice a2 n2 cap2] w fun e w' => e = .returned (.bool true) ∧ Below w.heap.size w w' := by
  have hg : Glob w ea [1, 2, 3, 4, 5, 6, 7, 8, 9, 10, 11] := hG.sub (fun k hk => hk)
  have K0 := Lib.hid (clustered_any ea w hg hT)
  have KL := Lib.hid (fun (W : World) (hb : Below w.heap.size w W) => longActs_any a2 n2 cap2 acts 60 W hn2 (hr2.below hb) hm2)
  have HG := Lib.hid hG
  have HT := Lib.hid hT
  have HR := Lib.hid hr
  have HN := Lib.hid hn
  have HR2 := Lib.hid hr2
  have HN2 := Lib.hid hn2
  have HOK := Lib.hid hok
  clear hg hG hT hr hn hr2 hn2 hok
  by_cases h40 : 40 < n
  · have d1 : decide ((40 : Int) < (n : Int)) = true := decide_eq_true (by omega)
    clear h40
    go_enter Tryz.func3, Tryz.ntmps3
    go_wp2_with fail
    refine K0.out.mono ?_
    rintro e w1 ⟨rfl, hb1⟩
    go_wp2
    go_ret
    exact ⟨rfl, hb1⟩
  · have d1 : decide ((40 : Int) < (n : Int)) = false := decide_eq_false (by omega)
    cases hlong : longA acts 60
    rotate_left
    · have HLG := Lib.hid hlong
      clear h40 hlong
      go_enter Tryz.func3, Tryz.ntmps3
      go_wp2_with fail
      refine K0.out.mono ?_
      rintro e w1 ⟨rfl, hb1⟩
      go_wp2_with fail
      refine (KL.out w1 hb1).mono ?_
      rintro e w2 ⟨rfl, rfl⟩
      rw [HLG.out]
      go_wp2
      go_ret
      exact ⟨rfl, hb1⟩
    · have HLG := Lib.hid hlong
      have hl60 := (longA_not hlong).1
      rw [HN2.out] at hl60
      clear hlong
      obtain ⟨i0, hi, hz0, hz1, hz2⟩ := info_parts info_int
      have hi' := Lib.hid hi
      have hz0' := Lib.hid hz0
      have hz1' := Lib.hid hz1
      have hz2' := Lib.hid hz2
      clear hi hz0 hz1 hz2
      go_enter Tryz.func3, Tryz.ntmps3
      go_wp2_with fail
      refine K0.out.mono ?_
      rintro e w1 ⟨rfl, hb1⟩
      go_wp2_with fail
      refine (KL.out w1 hb1).mono ?_
      rintro e w2 ⟨rfl, rfl⟩
      rw [HLG.out]
      have HR1 := Lib.hid (HR.out.below hb1)
      have HB1 := Lib.hid hb1
      clear K0 KL
      go_wp2_with (at_builtin; refine wpList_append2 _ rfl (.tmp 27) (.tmp 28) 22 rfl w1.heap.size 3 i0 _ 1 8 Tryz.underlying22 hi'.out hz0'.out hz1'.out hz2'.out rfl (by decide) (.slice none 0 0) 0 [] rfl (World.ownsRow_nil _ _ _ _) a n cap (encInts l) rfl ?_ ?_ ?_ ?_ ?_ ?_ ?_; (simp [encInts]; have := HN.out; omega); exact HR1.out; exact encInts_one _; unfold maxLen; omega; omega; exact Nat.le_refl _; intro vo w3 ho hgo hq hmv; clear hq hmv; rw [List.nil_append, Nat.zero_add] at ho; have hb3 : Below w1.heap.size w1 w3 := (Below.refl _ _).grown hgo (Nat.le_refl _) (fun j e => by simp [Value.ownBlock] at e); clear hgo)
      obtain ⟨av, cv, rfl⟩ := owned_shape ho
      have hrv := (RowAt.owned ho).1
      have hv3 := onto HB1.out hb3
      clear ho hb3
      by_cases hp : (planF l).1 = 0
      · have K1 := Lib.hid (cNew_ok ea av n cv l w3 (((HG.out.below hv3).glob).sub (by simp)) HN.out hrv hp)
        have hln : 0 < l.length := (planF_ok hp).2.1
        have HINV := Lib.hid (InvP.new hp)
        refine K1.out.mono ?_
        rintro e w4 ⟨L, rfl, hC4, hL4, hb4⟩
        have hv4 := onto hv3 hb4
        have K2 := Lib.hid (rNew_ok a n cap l w4 HN.out (HR.out.below hv4) hp)
        have hs3 := hv3.size
        have hs4 := hv4.size
        have hLw : Fresh w.heap.size L := ⟨Nat.le_trans hs3 hL4.cb, Nat.le_trans hs3 hL4.bb, Nat.le_trans hs3 hL4.mb⟩
        have HLW := Lib.hid hLw
        have HC4 := Lib.hid hC4
        have HV4 := Lib.hid hv4
        clear K1 hb4 hv4 hC4 hL4 hLw hp hrv
        go_wp2_with fail
        refine K2.out.mono ?_
        rintro e w5 ⟨R, rs, rfl, hR5, hpa, hcb, hnb, hb5⟩
        have hv5 := onto HV4.out hb5
        have hal : Below w5.heap.size w5 (w5.alloc (.cells #[.int .i64 0, .int .i64 (-1)] 33)) := (Below.refl _ _).alloc (Nat.le_refl _) _
        have HFA : Hid (∀ L' : CL, Fresh w.heap.size L' → ∀ b off, R.pa = some ⟨b, off, none⟩ → ¬ L'.own b) := fun L' hL' b off e hk => by
          have h1 := row_far HR.out hln (hpa ▸ e)
          have h2 := hL'.own _ hk
          omega
        have HB6 : Hid (BothAt (w5.alloc (.cells #[.int .i64 0, .int .i64 (-1)] 33)) w.heap.size L R (CP.new l)) := BothAt.below ⟨HC4.out.below hb5, ⟨rs, hR5⟩, HINV.out, HLW.out, ⟨by omega, by omega⟩, HFA.out L HLW.out⟩ hal
        have HV6 := Lib.hid (onto hv5 hal)
        have HE : Hid (EnvB ea w.heap.size w) := EnvB.of HG.out HT.out (Below.refl _ _) (Nat.le_refl _)
        clear K2 hR5 hpa hcb hnb hb5 hv5 hal hs3 hs4
        go_wp2
        generalize w5.alloc (.cells #[.int .i64 0, .int .i64 (-1)] 33) = W6 at *
        go_loopw [11] (fun i wr => ∃ (k : Nat) (c : CP), k ≤ n2 ∧ i = .int .i64 k ∧ BothAt wr w.heap.size L R c ∧ Below w.heap.size w wr) (fun i _ => n2 - (intOf i).toNat)
        case atStart => exact ⟨0, _, Nat.zero_le _, rfl, HB6.out, HV6.out⟩
        case round =>
          obtain ⟨k, c, hk, rfl, hB, hb⟩ := hrel
          clear HB6 HV6
          by_cases hlt : k < n2
          · have hkl : k < acts.length := by rw [HN2.out]; exact hlt
            obtain ⟨b, off, rfl, hbl, c0, c1, c2, c3⟩ := act_at (HR2.out.below hb) k hkl
            have hok0 := HOK.out acts[k] (List.getElem_mem hkl)
            have hlen := ((longA_not HLG.out).2 acts[k] (List.getElem_mem hkl)).2
            have hi0 : (0 : Int) ≤ (k : Int) := by omega
            have hi1 : (k : Int) < (n2 : Int) := by omega
            generalize acts[k] = ak at *
            have KA := Lib.hid (act_any ea w.heap.size L R c ak wr (HE.out.later hb) hB (hok0.below hb) (by omega) (ok_far hok0))
            have HB := Lib.hid hb
            clear hB hb hok0 hlen
            go_wp2_with fail
            refine KA.out.mono ?_
            rintro e w7 ⟨rfl, hB7, hb7⟩
            have HB7 := Lib.hid hB7
            have HV7 := Lib.hid (HB.out.trans hb7)
            clear hB7 hb7 KA
            go_wp2
            go_roundw
            case rel => exact ⟨k + 1, _, by omega, by go_num, HB7.out, HV7.out⟩
            case measure => simp [intOf]; omega
          · have K1 := Lib.hid (sameClus_any ea w.heap.size L R c wr (HE.out.later hb) hB)
            have HB := Lib.hid hb
            have HBB := Lib.hid hB
            clear hB hb
            go_wp2_with fail
            refine K1.out.mono ?_
            rintro e w7 ⟨rfl, hb7⟩
            have hB7 := HBB.out.below hb7
            have hv7 := onto HB.out hb7
            have K2 := Lib.hid (cCopy_any L c w7 hB7.clus (fun i x hf => by
              by_cases h2 : x.st = 2
              · have h3 := ((hB7.inv.node i x hf).on h2).2.2.2.2.1
                have h4 := hB7.inv.time
                omega
              · rw [((hB7.inv.node i x hf).off h2).2.2.2]; exact Nat.zero_le _))
            have HB7 := Lib.hid hB7
            have HV7 := Lib.hid hv7
            clear K1 hb7 hB7 hv7
            go_wp2_with fail
            refine K2.out.mono ?_
            rintro e w8 ⟨L', rfl, hC8, hL8, hb8⟩
            obtain ⟨rs8, hr8⟩ := HB7.out.ref
            have hLw : Fresh w.heap.size L' := ⟨Nat.le_trans HV7.out.size hL8.cb, Nat.le_trans HV7.out.size hL8.bb, Nat.le_trans HV7.out.size hL8.mb⟩
            have hB8 : BothAt w8 w.heap.size L' R c := ⟨hC8, ⟨rs8, hr8.below hb8⟩, HB7.out.inv, hLw, HB7.out.lowr, HFA.out L' hLw⟩
            have hv8 := onto HV7.out hb8
            have K3 := Lib.hid (sameClus_any ea w.heap.size L' R c w8 (HE.out.later hv8) hB8)
            have HV8 := Lib.hid hv8
            clear K2 hC8 hL8 hb8 hr8 hLw hB8 hv8
            go_wp2_with fail
            refine K3.out.mono ?_
            rintro e w9 ⟨rfl, hb9⟩
            go_wp2
            go_ret
            exact ⟨rfl, onto HV8.out hb9⟩
      · have K1 := Lib.hid (cNew_bad ea av n cv l w3 (((HG.out.below hv3).glob).sub (by simp)) HN.out hrv (by omega) hp)
        refine K1.out.mono ?_
        rintro e w4 ⟨v, rfl, hv, hb4⟩
        have hv4 := onto hv3 hb4
        have K2 := Lib.hid (rNew_bad a n cap l w4 HN.out (HR.out.below hv4) hm hp)
        have HVE := Lib.hid hv
        have HV4 := Lib.hid hv4
        have hle := planF_le l
        have hpos : (0 : Int) < ((planF l).1 : Int) := by omega
        clear K1 hb4 hv4 hv hrv hp
        have KF := Lib.hid (fun (W : World) (hW : Below w4.heap.size w4 W) => faulted3_any ea v (planF l).1 (planF l).2 ((planF l).1 : Nat) (planF l).2 W (HG.out.below (onto HV4.out hW)) (HVE.out.below hW) hle)
        simp only [true_and, or_true, decide_true] at KF
        generalize ((planF l).1 : Int) = pc at *
        generalize (planF l).2 = pp at *
        have dp : decide ((0 : Int) < pc) = true := decide_eq_true hpos
        go_wp2_with fail
        refine K2.out.mono ?_
        rintro e w5 ⟨rfl, hb5⟩
        have hA5 := hb5.alloc hb5.size (.cells #[.int .i64 pc, .int .i64 pp] 33)
        have K3 := Lib.hid (KF.out _ hA5)
        have hv6 := onto HV4.out hA5
        have e0 : (w5.alloc (.cells #[.int .i64 pc, .int .i64 pp] 33)).cell? ⟨w5.heap.size, 0, none⟩ = some (.int .i64 pc) := by simp
        have e1 : (w5.alloc (.cells #[.int .i64 pc, .int .i64 pp] 33)).cell? ⟨w5.heap.size, 1, none⟩ = some (.int .i64 pp) := by simp
        clear K2 hb5 hA5
        go_wp2_with fail
        refine K3.out.mono ?_
        rintro e w7 ⟨rfl, hb7⟩
        go_wp2
        go_ret
        exact ⟨rfl, onto hv6 hb7⟩
end Go.Proofs.YtoekajpjfoolpaaGreatDoor
