/- the reference's StepOf: its walks, where the node is not a member. (Printed by a program of mine.) -/
import Derived.Test.YtgghnncgeogemaaGreatDoorRefStep
namespace Go.Proofs.YtgghnncgeogemaaGreatDoor
open Go.RowKit

set_option maxRecDepth 100000 in
set_option maxHeartbeats 3200000 in
theorem stepOf_n1 (a : Option Addr) (n cap : Nat) (l : List Int) (m pb s : Nat) (d ec x0 x1 x2 x3 x4 who : Int) (t : List UInt8) (w : World) (hn : l.length = n) (hr : RowAt w a (encInts l)) (hc : n ≤ 4611686018427387904) (h : (planF l).1 = 0) (hV : viewE m d s = 0) (hs : s < 1000000) (hwho : whoV l s = who) (hm : m < 65536) (hpb : bitOf who = pb) (hH : hasB m who = false) (KRF : ∀ W : World, Calls Tryz.prog 63 #[.string ⟨t.toArray⟩] W fun e w' => e = .returned (.tuple #[.agg #[.int .i64 x0, .int .i64 x1, .int .i64 x2, .int .i64 x3, .int .i64 x4], .int .i64 ec]) ∧ Below W.heap.size W w') (h0 : (ec == 0) = false) :
    Calls Tryz.prog 35 #[.slice a n cap, .agg #[.int .i64 m, .int .i64 d, .int .i64 s], .string ⟨t.toArray⟩] w fun e w' =>
      e = .returned (.tuple #[.agg #[.int .i64 (m : Int), .int .i64 d, .int .i64 ((s : Int) + 1)], .agg #[.int .i64 s, .int .i64 who, .bool false, .int .i64 0], .agg #[.int .i64 0, .int .i64 (-1)]]) ∧ Below w.heap.size w w' := by
  have KP := Lib.hid (fun (W : World) (h : Below w.heap.size w W) => planFault_any a n cap l W hn (hr.below h) hc)
  have e0 : (((0 : Nat), (-1 : Int)).1 : Int) = 0 := rfl
  have e1 : (((0 : Nat), (-1 : Int)).2 : Int) = -1 := rfl
  rw [(planF_ok h).1, e0, e1] at KP
  clear e0 e1
  have KV := Lib.hid (fun W : World => viewError_any m d s W)
  have KB := Lib.hid (fun W : World => bare_any 0 W)
  have e2 : ((0 : Nat) : Int) = 0 := rfl
  rw [hV, e2] at KV
  have hnd : nodeB who = true := by rw [← hwho]; exact (planF_ok h).2.2.2 _ (whoV_mem l _ (planF_ok h).2.1)
  have KH := Lib.hid (fun W : World => refHas_any m who W)
  rw [hH] at KH
  have KPW := Lib.hid (fun W : World => power_who who W hnd)
  rw [hpb] at KPW
  have KF := Lib.hid KRF
  have hn0 : 0 < n := by have := (planF_ok h).2.1; omega
  have hnz : ((n : Int) == 0) = false := by simp; omega
  have HQ := Lib.hid (fun (W : World) (hb : Below w.heap.size w W) => who_cell s (hr.below hb) hn hn0)
  rw [hwho] at HQ
  have hm2 : 0 ≤ (s : Int) % n := Int.emod_nonneg _ (by omega)
  have hm3 : (s : Int) % n < n := Int.emod_lt_of_pos _ (by omega)
  have hn32 : n ≤ 32 := by have := (planF_ok h).2.2.1; omega
  have hs7 : ((s : Int) == 1000000) = false := by simp; omega
  have hpl : 1 ≤ pb ∧ pb ≤ 65536 := by rw [← hpb]; have := bitOf_lt hnd; have h3 := Nat.two_pow_pos (who.toNat - 1); unfold bitOf at *; omega
  have hb0 : Below w.heap.size w ((((w.alloc (.cells #[.int .i64 m, .int .i64 d, .int .i64 s] 49)).alloc (.cells #[.int .i64 0, .int .i64 0, .int .i64 0] 49)).alloc (.cells #[.int .i64 0, .int .i64 0, .bool false, .int .i64 0] 53)).alloc (.cells #[.int .i64 0, .int .i64 0] 42)) := ((((Below.refl _ _).alloc (Nat.le_refl _) _).alloc (by simp) _).alloc (by simp <;> omega) _).alloc (by simp <;> omega) _
  have b0 : Blok ((((w.alloc (.cells #[.int .i64 m, .int .i64 d, .int .i64 s] 49)).alloc (.cells #[.int .i64 0, .int .i64 0, .int .i64 0] 49)).alloc (.cells #[.int .i64 0, .int .i64 0, .bool false, .int .i64 0] 53)).alloc (.cells #[.int .i64 0, .int .i64 0] 42)) w.heap.size 49 #[.int .i64 m, .int .i64 d, .int .i64 s] := (((Blok.new w _ _).alloc _).alloc _).alloc _
  have b1 : Blok ((((w.alloc (.cells #[.int .i64 m, .int .i64 d, .int .i64 s] 49)).alloc (.cells #[.int .i64 0, .int .i64 0, .int .i64 0] 49)).alloc (.cells #[.int .i64 0, .int .i64 0, .bool false, .int .i64 0] 53)).alloc (.cells #[.int .i64 0, .int .i64 0] 42)) (w.heap.size + 1) 49 #[.int .i64 0, .int .i64 0, .int .i64 0] := by
    have := ((Blok.new (w.alloc (.cells #[.int .i64 m, .int .i64 d, .int .i64 s] 49)) 49 #[.int .i64 0, .int .i64 0, .int .i64 0]).alloc (.cells #[.int .i64 0, .int .i64 0, .bool false, .int .i64 0] 53)).alloc (.cells #[.int .i64 0, .int .i64 0] 42)
    rwa [World.size_alloc] at this
  have b2 : Blok ((((w.alloc (.cells #[.int .i64 m, .int .i64 d, .int .i64 s] 49)).alloc (.cells #[.int .i64 0, .int .i64 0, .int .i64 0] 49)).alloc (.cells #[.int .i64 0, .int .i64 0, .bool false, .int .i64 0] 53)).alloc (.cells #[.int .i64 0, .int .i64 0] 42)) (w.heap.size + 1 + 1) 53 #[.int .i64 0, .int .i64 0, .bool false, .int .i64 0] := by
    have := (Blok.new ((w.alloc (.cells #[.int .i64 m, .int .i64 d, .int .i64 s] 49)).alloc (.cells #[.int .i64 0, .int .i64 0, .int .i64 0] 49)) 53 #[.int .i64 0, .int .i64 0, .bool false, .int .i64 0]).alloc (.cells #[.int .i64 0, .int .i64 0] 42)
    rwa [World.size_alloc, World.size_alloc] at this
  have b3 : Blok ((((w.alloc (.cells #[.int .i64 m, .int .i64 d, .int .i64 s] 49)).alloc (.cells #[.int .i64 0, .int .i64 0, .int .i64 0] 49)).alloc (.cells #[.int .i64 0, .int .i64 0, .bool false, .int .i64 0] 53)).alloc (.cells #[.int .i64 0, .int .i64 0] 42)) (w.heap.size + 1 + 1 + 1) 42 #[.int .i64 0, .int .i64 0] := by
    have := Blok.new (((w.alloc (.cells #[.int .i64 m, .int .i64 d, .int .i64 s] 49)).alloc (.cells #[.int .i64 0, .int .i64 0, .int .i64 0] 49)).alloc (.cells #[.int .i64 0, .int .i64 0, .bool false, .int .i64 0] 53)) 42 #[.int .i64 0, .int .i64 0]
    rwa [World.size_alloc, World.size_alloc, World.size_alloc] at this
  clear hn hr h hV e2 hwho hpb hH hnd KRF
  go_enter Tryz.func35, Tryz.ntmps35
  go_wp2_with fail
  generalize hW0 : ((((w.alloc (.cells #[.int .i64 m, .int .i64 d, .int .i64 s] 49)).alloc (.cells #[.int .i64 0, .int .i64 0, .int .i64 0] 49)).alloc (.cells #[.int .i64 0, .int .i64 0, .bool false, .int .i64 0] 53)).alloc (.cells #[.int .i64 0, .int .i64 0] 42)) = W0 at *
  clear hW0
  refine (KP.out _ hb0).mono ?_
  rintro e w1 ⟨rfl, hB⟩
  have hv1 := hb0.trans (hB.mono hb0.size)
  have b0 := b0.kept hB
  have b1 := b1.kept hB
  have b2 := b2.kept hB
  have b3 := b3.kept hB
  have bf := Blok.new w1 42 #[.int .i64 0, .int .i64 (-1)]
  have hv2 := hv1.alloc hv1.size (.cells #[.int .i64 0, .int .i64 (-1)] 42)
  have hF := hv1.size
  have hE := b3.lt
  have b0 := b0.alloc (.cells #[.int .i64 0, .int .i64 (-1)] 42)
  have b1 := b1.alloc (.cells #[.int .i64 0, .int .i64 (-1)] 42)
  have b2 := b2.alloc (.cells #[.int .i64 0, .int .i64 (-1)] 42)
  have b3 := b3.alloc (.cells #[.int .i64 0, .int .i64 (-1)] 42)
  clear hB hb0
  have c0 := b0.cell 0 rfl
  have c1 := b0.cell 1 rfl
  have c2 := b0.cell 2 rfl
  have j0 := bf.cell 0 rfl
  have j1 := bf.cell 1 rfl
  have q0 := bf.frozen 0
  have q1 := bf.frozen 1
  go_wp2_with fail
  generalize hW2 : w1.alloc (.cells #[.int .i64 0, .int .i64 (-1)] 42) = w2 at *
  generalize w1.heap.size = F at *
  clear hW2
  have nf0 : ¬ (w.heap.size + 1 = F) := by omega
  have ng0 : ¬ (F = w.heap.size + 1) := by omega
  have nf1 : ¬ (w.heap.size + 1 + 1 = F) := by omega
  have ng1 : ¬ (F = w.heap.size + 1 + 1) := by omega
  have nf2 : ¬ (w.heap.size + 1 + 1 + 1 = F) := by omega
  have ng2 : ¬ (F = w.heap.size + 1 + 1 + 1) := by omega
  refine (KV.out _).mono ?_
  rintro e w3 ⟨rfl, hB⟩
  have hv3 := hv2.trans (hB.mono hv2.size)
  have b0 := b0.kept hB
  have b1 := b1.kept hB
  have b2 := b2.kept hB
  have b3 := b3.kept hB
  have bf := bf.kept hB
  clear hB hv2
  go_wp2_with fail
  refine (KB.out _).mono ?_
  rintro e w4 ⟨rfl, hB⟩
  have hv4 := hv3.trans (hB.mono hv3.size)
  have b0 := b0.kept hB
  have b1 := b1.kept hB
  have b2 := b2.kept hB
  have b3 := b3.kept hB
  have bf := bf.kept hB
  clear hB hv3 c0 c1 c2 j0 j1 q0 q1
  have c0 := b0.cell 0 rfl
  have c1 := b0.cell 1 rfl
  have c2 := b0.cell 2 rfl
  have j0 := bf.cell 0 rfl
  have j1 := bf.cell 1 rfl
  have q0 := bf.frozen 0
  have q1 := bf.frozen 1
  have hv5 := (hv4.setCell (show w.heap.size ≤ (⟨F, 0, none⟩ : Addr).block from hF) (.int .i64 0)).setCell (show w.heap.size ≤ (⟨F, 1, none⟩ : Addr).block from hF) (.int .i64 (-1))
  have bF := bf.two (.int .i64 0) (.int .i64 (-1))
  have B0 := (b0.setOther 0 (.int .i64 0) (show w.heap.size ≠ F by omega)).setOther 1 (.int .i64 (-1)) (show w.heap.size ≠ F by omega)
  have B1 := (b1.setOther 0 (.int .i64 0) (show w.heap.size + 1 ≠ F by omega)).setOther 1 (.int .i64 (-1)) (show w.heap.size + 1 ≠ F by omega)
  have B2 := (b2.setOther 0 (.int .i64 0) (show w.heap.size + 1 + 1 ≠ F by omega)).setOther 1 (.int .i64 (-1)) (show w.heap.size + 1 + 1 ≠ F by omega)
  have B3 := (b3.setOther 0 (.int .i64 0) (show w.heap.size + 1 + 1 + 1 ≠ F by omega)).setOther 1 (.int .i64 (-1)) (show w.heap.size + 1 + 1 + 1 ≠ F by omega)
  obtain ⟨b, off, rfl, hbl, u0⟩ := HQ.out _ hv5
  have d0 := bF.cell 0 rfl
  have y0 := B0.cell 0 rfl
  have y2 := B0.cell 2 rfl
  go_wp2_with fail
  refine (KH.out _).mono ?_
  rintro e w6 ⟨rfl, rfl⟩
  go_wp2_with fail
  refine (KPW.out _).mono ?_
  rintro e w6 ⟨rfl, rfl⟩
  go_wp2_with fail
  refine (KF.out _).mono ?_
  rintro e w6 ⟨rfl, hB⟩
  have hv6 := hv5.trans (hB.mono hv5.size)
  have b0 := B0.kept hB
  have b1 := B1.kept hB
  have b2 := B2.kept hB
  have b3 := B3.kept hB
  have bf := bF.kept hB
  clear hB hv5 hv4 bF B0 B1 B2 B3 c0 c1 c2 j0 j1 q0 q1 d0 y0 y2 u0 hbl HQ
  have br := Blok.new w6 88 #[.int .i64 x0, .int .i64 x1, .int .i64 x2, .int .i64 x3, .int .i64 x4]
  have hv7 := hv6.alloc hv6.size (.cells #[.int .i64 x0, .int .i64 x1, .int .i64 x2, .int .i64 x3, .int .i64 x4] 88)
  have hG := bf.lt
  have b0 := b0.alloc (.cells #[.int .i64 x0, .int .i64 x1, .int .i64 x2, .int .i64 x3, .int .i64 x4] 88)
  have b1 := b1.alloc (.cells #[.int .i64 x0, .int .i64 x1, .int .i64 x2, .int .i64 x3, .int .i64 x4] 88)
  have b2 := b2.alloc (.cells #[.int .i64 x0, .int .i64 x1, .int .i64 x2, .int .i64 x3, .int .i64 x4] 88)
  have b3 := b3.alloc (.cells #[.int .i64 x0, .int .i64 x1, .int .i64 x2, .int .i64 x3, .int .i64 x4] 88)
  have bf := bf.alloc (.cells #[.int .i64 x0, .int .i64 x1, .int .i64 x2, .int .i64 x3, .int .i64 x4] 88)
  have c1 := b0.cell 1 rfl
  have c2 := b0.cell 2 rfl
  have k0 := br.cell 0 rfl
  have k1 := br.cell 1 rfl
  have k2 := br.cell 2 rfl
  have k3 := br.cell 3 rfl
  have hz1 : (w6.alloc (.cells #[.int .i64 x0, .int .i64 x1, .int .i64 x2, .int .i64 x3, .int .i64 x4] 88)).heap.size = w6.heap.size + 1 := World.size_alloc _ _
  have hv8 := hv7.alloc hv7.size (.cells #[.int .i64 s, .int .i64 who, .bool false, .int .i64 0] 53)
  have m1 := (b0.alloc (.cells #[.int .i64 s, .int .i64 who, .bool false, .int .i64 0] 53)).cell 1 rfl
  have m2 := (b0.alloc (.cells #[.int .i64 s, .int .i64 who, .bool false, .int .i64 0] 53)).cell 2 rfl
  have bn := (Blok.new (w6.alloc (.cells #[.int .i64 x0, .int .i64 x1, .int .i64 x2, .int .i64 x3, .int .i64 x4] 88)) 53 #[.int .i64 s, .int .i64 who, .bool false, .int .i64 0]).alloc (.cells #[.int .i64 (m : Int), .int .i64 d, .int .i64 ((s : Int) + 1)] 49)
  rw [hz1] at bn
  have hv8 := hv7.alloc hv7.size (.cells #[.int .i64 s, .int .i64 who, .bool false, .int .i64 0] 53)
  have hz2 : ((w6.alloc (.cells #[.int .i64 x0, .int .i64 x1, .int .i64 x2, .int .i64 x3, .int .i64 x4] 88)).alloc (.cells #[.int .i64 s, .int .i64 who, .bool false, .int .i64 0] 53)).heap.size = w6.heap.size + 1 + 1 := by rw [World.size_alloc, World.size_alloc]
  have bv := Blok.new ((w6.alloc (.cells #[.int .i64 x0, .int .i64 x1, .int .i64 x2, .int .i64 x3, .int .i64 x4] 88)).alloc (.cells #[.int .i64 s, .int .i64 who, .bool false, .int .i64 0] 53)) 49 #[.int .i64 (m : Int), .int .i64 d, .int .i64 ((s : Int) + 1)]
  rw [hz2] at bv
  have hv9 := hv8.alloc hv8.size (.cells #[.int .i64 (m : Int), .int .i64 d, .int .i64 ((s : Int) + 1)] 49)
  have hs6 := hv6.size
  go_wp2
  have b1 := (b1.alloc (.cells #[.int .i64 s, .int .i64 who, .bool false, .int .i64 0] 53)).alloc (.cells #[.int .i64 (m : Int), .int .i64 d, .int .i64 ((s : Int) + 1)] 49)
  have b2 := (b2.alloc (.cells #[.int .i64 s, .int .i64 who, .bool false, .int .i64 0] 53)).alloc (.cells #[.int .i64 (m : Int), .int .i64 d, .int .i64 ((s : Int) + 1)] 49)
  have b3 := (b3.alloc (.cells #[.int .i64 s, .int .i64 who, .bool false, .int .i64 0] 53)).alloc (.cells #[.int .i64 (m : Int), .int .i64 d, .int .i64 ((s : Int) + 1)] 49)
  have bf := (bf.alloc (.cells #[.int .i64 s, .int .i64 who, .bool false, .int .i64 0] 53)).alloc (.cells #[.int .i64 (m : Int), .int .i64 d, .int .i64 ((s : Int) + 1)] 49)
  generalize hW9 : ((w6.alloc (.cells #[.int .i64 x0, .int .i64 x1, .int .i64 x2, .int .i64 x3, .int .i64 x4] 88)).alloc (.cells #[.int .i64 s, .int .i64 who, .bool false, .int .i64 0] 53)).alloc (.cells #[.int .i64 (m : Int), .int .i64 d, .int .i64 ((s : Int) + 1)] 49) = W9 at *
  clear hW9
  generalize w6.heap.size = G at *
  have ne0 : ¬ (G + 1 = F) := by omega
  have ne1 : ¬ (G + 1 + 1 = F) := by omega
  have ne2 : ¬ (G + 1 + 1 = G + 1) := by omega
  have ne3 : ¬ (G + 1 = G + 1 + 1) := by omega
  have ne4 : ¬ (G + 1 + 1 = G) := by omega
  have ne5 : ¬ (G + 1 = G) := by omega
  have ne6 : ¬ (F = G + 1) := by omega
  have ne7 : ¬ (F = G + 1 + 1) := by omega
  have ne8 : ¬ (G = G + 1) := by omega
  have ne9 : ¬ (G = G + 1 + 1) := by omega
  have ne10 : ¬ (w.heap.size + 1 = F) := by omega
  have ne11 : ¬ (F = w.heap.size + 1) := by omega
  have ne12 : ¬ (w.heap.size + 1 = G + 1) := by omega
  have ne13 : ¬ (G + 1 = w.heap.size + 1) := by omega
  have ne14 : ¬ (w.heap.size + 1 = G + 1 + 1) := by omega
  have ne15 : ¬ (G + 1 + 1 = w.heap.size + 1) := by omega
  have ne16 : ¬ (w.heap.size + 1 + 1 = F) := by omega
  have ne17 : ¬ (F = w.heap.size + 1 + 1) := by omega
  have ne18 : ¬ (w.heap.size + 1 + 1 = G + 1) := by omega
  have ne19 : ¬ (G + 1 = w.heap.size + 1 + 1) := by omega
  have ne20 : ¬ (w.heap.size + 1 + 1 = G + 1 + 1) := by omega
  have ne21 : ¬ (G + 1 + 1 = w.heap.size + 1 + 1) := by omega
  have ne22 : ¬ (w.heap.size + 1 + 1 + 1 = F) := by omega
  have ne23 : ¬ (F = w.heap.size + 1 + 1 + 1) := by omega
  have ne24 : ¬ (w.heap.size + 1 + 1 + 1 = G + 1) := by omega
  have ne25 : ¬ (G + 1 = w.heap.size + 1 + 1 + 1) := by omega
  have ne26 : ¬ (w.heap.size + 1 + 1 + 1 = G + 1 + 1) := by omega
  have ne27 : ¬ (G + 1 + 1 = w.heap.size + 1 + 1 + 1) := by omega
  have a0 := bn.cell 0 rfl
  have a1 := bn.cell 1 rfl
  have a2 := bn.cell 2 rfl
  have a3 := bn.cell 3 rfl
  have o0 := bv.cell 0 rfl
  have o1 := bv.cell 1 rfl
  have o2 := bv.cell 2 rfl
  have v0 := bn.frozen 0
  have v1 := bn.frozen 1
  have v2 := bn.frozen 2
  have v3 := bn.frozen 3
  have s0 := bv.frozen 0
  have hvZ := hv9
  have e0 := b1.cell 0 rfl
  have e1 := b1.cell 1 rfl
  have e2 := b1.cell 2 rfl
  have g0 := b2.cell 0 rfl
  have g1 := b2.cell 1 rfl
  have g2 := b2.cell 2 rfl
  have g3 := b2.cell 3 rfl
  have i0 := b3.cell 0 rfl
  have i1 := b3.cell 1 rfl
  have j0 := bf.cell 0 rfl
  have j1 := bf.cell 1 rfl
  have q0 := b1.frozen 0
  have q1 := b1.frozen 1
  have q2 := b1.frozen 2
  have r0 := b2.frozen 0
  have r1 := b2.frozen 1
  have r2 := b2.frozen 2
  have r3 := b2.frozen 3
  have u0 := b3.frozen 0
  have u1 := b3.frozen 1
  go_wp2
  go_region
  all_goals
    go_wp2
    refine bodyPost_ret (v := .tuple #[.agg #[.int .i64 (m : Int), .int .i64 d, .int .i64 ((s : Int) + 1)], .agg #[.int .i64 s, .int .i64 who, .bool false, .int .i64 0], .agg #[.int .i64 0, .int .i64 (-1)]]) (by simp [results, Tryz.results35, go_sem, e0, e1, e2, g0, g1, g2, g3, i0, i1]) rfl ?_
    refine ⟨rfl, ?_⟩
    repeat (first | (with_reducible exact hvZ) | (with_reducible refine Below.drew ?_) | (with_reducible refine Below.setCell ?_ (by first | omega | (simp <;> omega)) _))

set_option maxRecDepth 100000 in
set_option maxHeartbeats 3200000 in
theorem stepOf_n2 (a : Option Addr) (n cap : Nat) (l : List Int) (m pb s : Nat) (d ec x0 x1 x2 x3 x4 who : Int) (t : List UInt8) (w : World) (hn : l.length = n) (hr : RowAt w a (encInts l)) (hc : n ≤ 4611686018427387904) (h : (planF l).1 = 0) (hV : viewE m d s = 0) (hs : s < 1000000) (hwho : whoV l s = who) (hm : m < 65536) (hpb : bitOf who = pb) (hH : hasB m who = false) (KRF : ∀ W : World, Calls Tryz.prog 63 #[.string ⟨t.toArray⟩] W fun e w' => e = .returned (.tuple #[.agg #[.int .i64 x0, .int .i64 x1, .int .i64 x2, .int .i64 x3, .int .i64 x4], .int .i64 ec]) ∧ Below W.heap.size W w') (h0 : (ec == 0) = true) (h1 : (x0 == who) = false) :
    Calls Tryz.prog 35 #[.slice a n cap, .agg #[.int .i64 m, .int .i64 d, .int .i64 s], .string ⟨t.toArray⟩] w fun e w' =>
      e = .returned (.tuple #[.agg #[.int .i64 (m : Int), .int .i64 d, .int .i64 ((s : Int) + 1)], .agg #[.int .i64 s, .int .i64 who, .bool false, .int .i64 0], .agg #[.int .i64 0, .int .i64 (-1)]]) ∧ Below w.heap.size w w' := by
  have KP := Lib.hid (fun (W : World) (h : Below w.heap.size w W) => planFault_any a n cap l W hn (hr.below h) hc)
  have e0 : (((0 : Nat), (-1 : Int)).1 : Int) = 0 := rfl
  have e1 : (((0 : Nat), (-1 : Int)).2 : Int) = -1 := rfl
  rw [(planF_ok h).1, e0, e1] at KP
  clear e0 e1
  have KV := Lib.hid (fun W : World => viewError_any m d s W)
  have KB := Lib.hid (fun W : World => bare_any 0 W)
  have e2 : ((0 : Nat) : Int) = 0 := rfl
  rw [hV, e2] at KV
  have hnd : nodeB who = true := by rw [← hwho]; exact (planF_ok h).2.2.2 _ (whoV_mem l _ (planF_ok h).2.1)
  have KH := Lib.hid (fun W : World => refHas_any m who W)
  rw [hH] at KH
  have KPW := Lib.hid (fun W : World => power_who who W hnd)
  rw [hpb] at KPW
  have KF := Lib.hid KRF
  have hn0 : 0 < n := by have := (planF_ok h).2.1; omega
  have hnz : ((n : Int) == 0) = false := by simp; omega
  have HQ := Lib.hid (fun (W : World) (hb : Below w.heap.size w W) => who_cell s (hr.below hb) hn hn0)
  rw [hwho] at HQ
  have hm2 : 0 ≤ (s : Int) % n := Int.emod_nonneg _ (by omega)
  have hm3 : (s : Int) % n < n := Int.emod_lt_of_pos _ (by omega)
  have hn32 : n ≤ 32 := by have := (planF_ok h).2.2.1; omega
  have hs7 : ((s : Int) == 1000000) = false := by simp; omega
  have hpl : 1 ≤ pb ∧ pb ≤ 65536 := by rw [← hpb]; have := bitOf_lt hnd; have h3 := Nat.two_pow_pos (who.toNat - 1); unfold bitOf at *; omega
  have hb0 : Below w.heap.size w ((((w.alloc (.cells #[.int .i64 m, .int .i64 d, .int .i64 s] 49)).alloc (.cells #[.int .i64 0, .int .i64 0, .int .i64 0] 49)).alloc (.cells #[.int .i64 0, .int .i64 0, .bool false, .int .i64 0] 53)).alloc (.cells #[.int .i64 0, .int .i64 0] 42)) := ((((Below.refl _ _).alloc (Nat.le_refl _) _).alloc (by simp) _).alloc (by simp <;> omega) _).alloc (by simp <;> omega) _
  have b0 : Blok ((((w.alloc (.cells #[.int .i64 m, .int .i64 d, .int .i64 s] 49)).alloc (.cells #[.int .i64 0, .int .i64 0, .int .i64 0] 49)).alloc (.cells #[.int .i64 0, .int .i64 0, .bool false, .int .i64 0] 53)).alloc (.cells #[.int .i64 0, .int .i64 0] 42)) w.heap.size 49 #[.int .i64 m, .int .i64 d, .int .i64 s] := (((Blok.new w _ _).alloc _).alloc _).alloc _
  have b1 : Blok ((((w.alloc (.cells #[.int .i64 m, .int .i64 d, .int .i64 s] 49)).alloc (.cells #[.int .i64 0, .int .i64 0, .int .i64 0] 49)).alloc (.cells #[.int .i64 0, .int .i64 0, .bool false, .int .i64 0] 53)).alloc (.cells #[.int .i64 0, .int .i64 0] 42)) (w.heap.size + 1) 49 #[.int .i64 0, .int .i64 0, .int .i64 0] := by
    have := ((Blok.new (w.alloc (.cells #[.int .i64 m, .int .i64 d, .int .i64 s] 49)) 49 #[.int .i64 0, .int .i64 0, .int .i64 0]).alloc (.cells #[.int .i64 0, .int .i64 0, .bool false, .int .i64 0] 53)).alloc (.cells #[.int .i64 0, .int .i64 0] 42)
    rwa [World.size_alloc] at this
  have b2 : Blok ((((w.alloc (.cells #[.int .i64 m, .int .i64 d, .int .i64 s] 49)).alloc (.cells #[.int .i64 0, .int .i64 0, .int .i64 0] 49)).alloc (.cells #[.int .i64 0, .int .i64 0, .bool false, .int .i64 0] 53)).alloc (.cells #[.int .i64 0, .int .i64 0] 42)) (w.heap.size + 1 + 1) 53 #[.int .i64 0, .int .i64 0, .bool false, .int .i64 0] := by
    have := (Blok.new ((w.alloc (.cells #[.int .i64 m, .int .i64 d, .int .i64 s] 49)).alloc (.cells #[.int .i64 0, .int .i64 0, .int .i64 0] 49)) 53 #[.int .i64 0, .int .i64 0, .bool false, .int .i64 0]).alloc (.cells #[.int .i64 0, .int .i64 0] 42)
    rwa [World.size_alloc, World.size_alloc] at this
  have b3 : Blok ((((w.alloc (.cells #[.int .i64 m, .int .i64 d, .int .i64 s] 49)).alloc (.cells #[.int .i64 0, .int .i64 0, .int .i64 0] 49)).alloc (.cells #[.int .i64 0, .int .i64 0, .bool false, .int .i64 0] 53)).alloc (.cells #[.int .i64 0, .int .i64 0] 42)) (w.heap.size + 1 + 1 + 1) 42 #[.int .i64 0, .int .i64 0] := by
    have := Blok.new (((w.alloc (.cells #[.int .i64 m, .int .i64 d, .int .i64 s] 49)).alloc (.cells #[.int .i64 0, .int .i64 0, .int .i64 0] 49)).alloc (.cells #[.int .i64 0, .int .i64 0, .bool false, .int .i64 0] 53)) 42 #[.int .i64 0, .int .i64 0]
    rwa [World.size_alloc, World.size_alloc, World.size_alloc] at this
  clear hn hr h hV e2 hwho hpb hH hnd KRF
  go_enter Tryz.func35, Tryz.ntmps35
  go_wp2_with fail
  generalize hW0 : ((((w.alloc (.cells #[.int .i64 m, .int .i64 d, .int .i64 s] 49)).alloc (.cells #[.int .i64 0, .int .i64 0, .int .i64 0] 49)).alloc (.cells #[.int .i64 0, .int .i64 0, .bool false, .int .i64 0] 53)).alloc (.cells #[.int .i64 0, .int .i64 0] 42)) = W0 at *
  clear hW0
  refine (KP.out _ hb0).mono ?_
  rintro e w1 ⟨rfl, hB⟩
  have hv1 := hb0.trans (hB.mono hb0.size)
  have b0 := b0.kept hB
  have b1 := b1.kept hB
  have b2 := b2.kept hB
  have b3 := b3.kept hB
  have bf := Blok.new w1 42 #[.int .i64 0, .int .i64 (-1)]
  have hv2 := hv1.alloc hv1.size (.cells #[.int .i64 0, .int .i64 (-1)] 42)
  have hF := hv1.size
  have hE := b3.lt
  have b0 := b0.alloc (.cells #[.int .i64 0, .int .i64 (-1)] 42)
  have b1 := b1.alloc (.cells #[.int .i64 0, .int .i64 (-1)] 42)
  have b2 := b2.alloc (.cells #[.int .i64 0, .int .i64 (-1)] 42)
  have b3 := b3.alloc (.cells #[.int .i64 0, .int .i64 (-1)] 42)
  clear hB hb0
  have c0 := b0.cell 0 rfl
  have c1 := b0.cell 1 rfl
  have c2 := b0.cell 2 rfl
  have j0 := bf.cell 0 rfl
  have j1 := bf.cell 1 rfl
  have q0 := bf.frozen 0
  have q1 := bf.frozen 1
  go_wp2_with fail
  generalize hW2 : w1.alloc (.cells #[.int .i64 0, .int .i64 (-1)] 42) = w2 at *
  generalize w1.heap.size = F at *
  clear hW2
  have nf0 : ¬ (w.heap.size + 1 = F) := by omega
  have ng0 : ¬ (F = w.heap.size + 1) := by omega
  have nf1 : ¬ (w.heap.size + 1 + 1 = F) := by omega
  have ng1 : ¬ (F = w.heap.size + 1 + 1) := by omega
  have nf2 : ¬ (w.heap.size + 1 + 1 + 1 = F) := by omega
  have ng2 : ¬ (F = w.heap.size + 1 + 1 + 1) := by omega
  refine (KV.out _).mono ?_
  rintro e w3 ⟨rfl, hB⟩
  have hv3 := hv2.trans (hB.mono hv2.size)
  have b0 := b0.kept hB
  have b1 := b1.kept hB
  have b2 := b2.kept hB
  have b3 := b3.kept hB
  have bf := bf.kept hB
  clear hB hv2
  go_wp2_with fail
  refine (KB.out _).mono ?_
  rintro e w4 ⟨rfl, hB⟩
  have hv4 := hv3.trans (hB.mono hv3.size)
  have b0 := b0.kept hB
  have b1 := b1.kept hB
  have b2 := b2.kept hB
  have b3 := b3.kept hB
  have bf := bf.kept hB
  clear hB hv3 c0 c1 c2 j0 j1 q0 q1
  have c0 := b0.cell 0 rfl
  have c1 := b0.cell 1 rfl
  have c2 := b0.cell 2 rfl
  have j0 := bf.cell 0 rfl
  have j1 := bf.cell 1 rfl
  have q0 := bf.frozen 0
  have q1 := bf.frozen 1
  have hv5 := (hv4.setCell (show w.heap.size ≤ (⟨F, 0, none⟩ : Addr).block from hF) (.int .i64 0)).setCell (show w.heap.size ≤ (⟨F, 1, none⟩ : Addr).block from hF) (.int .i64 (-1))
  have bF := bf.two (.int .i64 0) (.int .i64 (-1))
  have B0 := (b0.setOther 0 (.int .i64 0) (show w.heap.size ≠ F by omega)).setOther 1 (.int .i64 (-1)) (show w.heap.size ≠ F by omega)
  have B1 := (b1.setOther 0 (.int .i64 0) (show w.heap.size + 1 ≠ F by omega)).setOther 1 (.int .i64 (-1)) (show w.heap.size + 1 ≠ F by omega)
  have B2 := (b2.setOther 0 (.int .i64 0) (show w.heap.size + 1 + 1 ≠ F by omega)).setOther 1 (.int .i64 (-1)) (show w.heap.size + 1 + 1 ≠ F by omega)
  have B3 := (b3.setOther 0 (.int .i64 0) (show w.heap.size + 1 + 1 + 1 ≠ F by omega)).setOther 1 (.int .i64 (-1)) (show w.heap.size + 1 + 1 + 1 ≠ F by omega)
  obtain ⟨b, off, rfl, hbl, u0⟩ := HQ.out _ hv5
  have d0 := bF.cell 0 rfl
  have y0 := B0.cell 0 rfl
  have y2 := B0.cell 2 rfl
  go_wp2_with fail
  refine (KH.out _).mono ?_
  rintro e w6 ⟨rfl, rfl⟩
  go_wp2_with fail
  refine (KPW.out _).mono ?_
  rintro e w6 ⟨rfl, rfl⟩
  go_wp2_with fail
  refine (KF.out _).mono ?_
  rintro e w6 ⟨rfl, hB⟩
  have hv6 := hv5.trans (hB.mono hv5.size)
  have b0 := B0.kept hB
  have b1 := B1.kept hB
  have b2 := B2.kept hB
  have b3 := B3.kept hB
  have bf := bF.kept hB
  clear hB hv5 hv4 bF B0 B1 B2 B3 c0 c1 c2 j0 j1 q0 q1 d0 y0 y2 u0 hbl HQ
  have br := Blok.new w6 88 #[.int .i64 x0, .int .i64 x1, .int .i64 x2, .int .i64 x3, .int .i64 x4]
  have hv7 := hv6.alloc hv6.size (.cells #[.int .i64 x0, .int .i64 x1, .int .i64 x2, .int .i64 x3, .int .i64 x4] 88)
  have hG := bf.lt
  have b0 := b0.alloc (.cells #[.int .i64 x0, .int .i64 x1, .int .i64 x2, .int .i64 x3, .int .i64 x4] 88)
  have b1 := b1.alloc (.cells #[.int .i64 x0, .int .i64 x1, .int .i64 x2, .int .i64 x3, .int .i64 x4] 88)
  have b2 := b2.alloc (.cells #[.int .i64 x0, .int .i64 x1, .int .i64 x2, .int .i64 x3, .int .i64 x4] 88)
  have b3 := b3.alloc (.cells #[.int .i64 x0, .int .i64 x1, .int .i64 x2, .int .i64 x3, .int .i64 x4] 88)
  have bf := bf.alloc (.cells #[.int .i64 x0, .int .i64 x1, .int .i64 x2, .int .i64 x3, .int .i64 x4] 88)
  have c1 := b0.cell 1 rfl
  have c2 := b0.cell 2 rfl
  have k0 := br.cell 0 rfl
  have k1 := br.cell 1 rfl
  have k2 := br.cell 2 rfl
  have k3 := br.cell 3 rfl
  have hz1 : (w6.alloc (.cells #[.int .i64 x0, .int .i64 x1, .int .i64 x2, .int .i64 x3, .int .i64 x4] 88)).heap.size = w6.heap.size + 1 := World.size_alloc _ _
  have hv8 := hv7.alloc hv7.size (.cells #[.int .i64 s, .int .i64 who, .bool false, .int .i64 0] 53)
  have m1 := (b0.alloc (.cells #[.int .i64 s, .int .i64 who, .bool false, .int .i64 0] 53)).cell 1 rfl
  have m2 := (b0.alloc (.cells #[.int .i64 s, .int .i64 who, .bool false, .int .i64 0] 53)).cell 2 rfl
  have bn := (Blok.new (w6.alloc (.cells #[.int .i64 x0, .int .i64 x1, .int .i64 x2, .int .i64 x3, .int .i64 x4] 88)) 53 #[.int .i64 s, .int .i64 who, .bool false, .int .i64 0]).alloc (.cells #[.int .i64 (m : Int), .int .i64 d, .int .i64 ((s : Int) + 1)] 49)
  rw [hz1] at bn
  have hv8 := hv7.alloc hv7.size (.cells #[.int .i64 s, .int .i64 who, .bool false, .int .i64 0] 53)
  have hz2 : ((w6.alloc (.cells #[.int .i64 x0, .int .i64 x1, .int .i64 x2, .int .i64 x3, .int .i64 x4] 88)).alloc (.cells #[.int .i64 s, .int .i64 who, .bool false, .int .i64 0] 53)).heap.size = w6.heap.size + 1 + 1 := by rw [World.size_alloc, World.size_alloc]
  have bv := Blok.new ((w6.alloc (.cells #[.int .i64 x0, .int .i64 x1, .int .i64 x2, .int .i64 x3, .int .i64 x4] 88)).alloc (.cells #[.int .i64 s, .int .i64 who, .bool false, .int .i64 0] 53)) 49 #[.int .i64 (m : Int), .int .i64 d, .int .i64 ((s : Int) + 1)]
  rw [hz2] at bv
  have hv9 := hv8.alloc hv8.size (.cells #[.int .i64 (m : Int), .int .i64 d, .int .i64 ((s : Int) + 1)] 49)
  have hs6 := hv6.size
  go_wp2
  have b1 := (b1.alloc (.cells #[.int .i64 s, .int .i64 who, .bool false, .int .i64 0] 53)).alloc (.cells #[.int .i64 (m : Int), .int .i64 d, .int .i64 ((s : Int) + 1)] 49)
  have b2 := (b2.alloc (.cells #[.int .i64 s, .int .i64 who, .bool false, .int .i64 0] 53)).alloc (.cells #[.int .i64 (m : Int), .int .i64 d, .int .i64 ((s : Int) + 1)] 49)
  have b3 := (b3.alloc (.cells #[.int .i64 s, .int .i64 who, .bool false, .int .i64 0] 53)).alloc (.cells #[.int .i64 (m : Int), .int .i64 d, .int .i64 ((s : Int) + 1)] 49)
  have bf := (bf.alloc (.cells #[.int .i64 s, .int .i64 who, .bool false, .int .i64 0] 53)).alloc (.cells #[.int .i64 (m : Int), .int .i64 d, .int .i64 ((s : Int) + 1)] 49)
  generalize hW9 : ((w6.alloc (.cells #[.int .i64 x0, .int .i64 x1, .int .i64 x2, .int .i64 x3, .int .i64 x4] 88)).alloc (.cells #[.int .i64 s, .int .i64 who, .bool false, .int .i64 0] 53)).alloc (.cells #[.int .i64 (m : Int), .int .i64 d, .int .i64 ((s : Int) + 1)] 49) = W9 at *
  clear hW9
  generalize w6.heap.size = G at *
  have ne0 : ¬ (G + 1 = F) := by omega
  have ne1 : ¬ (G + 1 + 1 = F) := by omega
  have ne2 : ¬ (G + 1 + 1 = G + 1) := by omega
  have ne3 : ¬ (G + 1 = G + 1 + 1) := by omega
  have ne4 : ¬ (G + 1 + 1 = G) := by omega
  have ne5 : ¬ (G + 1 = G) := by omega
  have ne6 : ¬ (F = G + 1) := by omega
  have ne7 : ¬ (F = G + 1 + 1) := by omega
  have ne8 : ¬ (G = G + 1) := by omega
  have ne9 : ¬ (G = G + 1 + 1) := by omega
  have ne10 : ¬ (w.heap.size + 1 = F) := by omega
  have ne11 : ¬ (F = w.heap.size + 1) := by omega
  have ne12 : ¬ (w.heap.size + 1 = G + 1) := by omega
  have ne13 : ¬ (G + 1 = w.heap.size + 1) := by omega
  have ne14 : ¬ (w.heap.size + 1 = G + 1 + 1) := by omega
  have ne15 : ¬ (G + 1 + 1 = w.heap.size + 1) := by omega
  have ne16 : ¬ (w.heap.size + 1 + 1 = F) := by omega
  have ne17 : ¬ (F = w.heap.size + 1 + 1) := by omega
  have ne18 : ¬ (w.heap.size + 1 + 1 = G + 1) := by omega
  have ne19 : ¬ (G + 1 = w.heap.size + 1 + 1) := by omega
  have ne20 : ¬ (w.heap.size + 1 + 1 = G + 1 + 1) := by omega
  have ne21 : ¬ (G + 1 + 1 = w.heap.size + 1 + 1) := by omega
  have ne22 : ¬ (w.heap.size + 1 + 1 + 1 = F) := by omega
  have ne23 : ¬ (F = w.heap.size + 1 + 1 + 1) := by omega
  have ne24 : ¬ (w.heap.size + 1 + 1 + 1 = G + 1) := by omega
  have ne25 : ¬ (G + 1 = w.heap.size + 1 + 1 + 1) := by omega
  have ne26 : ¬ (w.heap.size + 1 + 1 + 1 = G + 1 + 1) := by omega
  have ne27 : ¬ (G + 1 + 1 = w.heap.size + 1 + 1 + 1) := by omega
  have a0 := bn.cell 0 rfl
  have a1 := bn.cell 1 rfl
  have a2 := bn.cell 2 rfl
  have a3 := bn.cell 3 rfl
  have o0 := bv.cell 0 rfl
  have o1 := bv.cell 1 rfl
  have o2 := bv.cell 2 rfl
  have v0 := bn.frozen 0
  have v1 := bn.frozen 1
  have v2 := bn.frozen 2
  have v3 := bn.frozen 3
  have s0 := bv.frozen 0
  have hvZ := hv9
  have e0 := b1.cell 0 rfl
  have e1 := b1.cell 1 rfl
  have e2 := b1.cell 2 rfl
  have g0 := b2.cell 0 rfl
  have g1 := b2.cell 1 rfl
  have g2 := b2.cell 2 rfl
  have g3 := b2.cell 3 rfl
  have i0 := b3.cell 0 rfl
  have i1 := b3.cell 1 rfl
  have j0 := bf.cell 0 rfl
  have j1 := bf.cell 1 rfl
  have q0 := b1.frozen 0
  have q1 := b1.frozen 1
  have q2 := b1.frozen 2
  have r0 := b2.frozen 0
  have r1 := b2.frozen 1
  have r2 := b2.frozen 2
  have r3 := b2.frozen 3
  have u0 := b3.frozen 0
  have u1 := b3.frozen 1
  go_wp2
  go_region
  all_goals
    go_wp2
    refine bodyPost_ret (v := .tuple #[.agg #[.int .i64 (m : Int), .int .i64 d, .int .i64 ((s : Int) + 1)], .agg #[.int .i64 s, .int .i64 who, .bool false, .int .i64 0], .agg #[.int .i64 0, .int .i64 (-1)]]) (by simp [results, Tryz.results35, go_sem, e0, e1, e2, g0, g1, g2, g3, i0, i1]) rfl ?_
    refine ⟨rfl, ?_⟩
    repeat (first | (with_reducible exact hvZ) | (with_reducible refine Below.drew ?_) | (with_reducible refine Below.setCell ?_ (by first | omega | (simp <;> omega)) _))

set_option maxRecDepth 100000 in
set_option maxHeartbeats 3200000 in
theorem stepOf_n3 (a : Option Addr) (n cap : Nat) (l : List Int) (m pb s : Nat) (d ec x0 x1 x2 x3 x4 who : Int) (t : List UInt8) (w : World) (hn : l.length = n) (hr : RowAt w a (encInts l)) (hc : n ≤ 4611686018427387904) (h : (planF l).1 = 0) (hV : viewE m d s = 0) (hs : s < 1000000) (hwho : whoV l s = who) (hm : m < 65536) (hpb : bitOf who = pb) (hH : hasB m who = false) (KRF : ∀ W : World, Calls Tryz.prog 63 #[.string ⟨t.toArray⟩] W fun e w' => e = .returned (.tuple #[.agg #[.int .i64 x0, .int .i64 x1, .int .i64 x2, .int .i64 x3, .int .i64 x4], .int .i64 ec]) ∧ Below W.heap.size W w') (h0 : (ec == 0) = true) (h1 : (x0 == who) = true) (h2 : (x1 == ((m : Int) + (pb : Int))) = false) :
    Calls Tryz.prog 35 #[.slice a n cap, .agg #[.int .i64 m, .int .i64 d, .int .i64 s], .string ⟨t.toArray⟩] w fun e w' =>
      e = .returned (.tuple #[.agg #[.int .i64 (m : Int), .int .i64 d, .int .i64 ((s : Int) + 1)], .agg #[.int .i64 s, .int .i64 who, .bool false, .int .i64 0], .agg #[.int .i64 0, .int .i64 (-1)]]) ∧ Below w.heap.size w w' := by
  have KP := Lib.hid (fun (W : World) (h : Below w.heap.size w W) => planFault_any a n cap l W hn (hr.below h) hc)
  have e0 : (((0 : Nat), (-1 : Int)).1 : Int) = 0 := rfl
  have e1 : (((0 : Nat), (-1 : Int)).2 : Int) = -1 := rfl
  rw [(planF_ok h).1, e0, e1] at KP
  clear e0 e1
  have KV := Lib.hid (fun W : World => viewError_any m d s W)
  have KB := Lib.hid (fun W : World => bare_any 0 W)
  have e2 : ((0 : Nat) : Int) = 0 := rfl
  rw [hV, e2] at KV
  have hnd : nodeB who = true := by rw [← hwho]; exact (planF_ok h).2.2.2 _ (whoV_mem l _ (planF_ok h).2.1)
  have KH := Lib.hid (fun W : World => refHas_any m who W)
  rw [hH] at KH
  have KPW := Lib.hid (fun W : World => power_who who W hnd)
  rw [hpb] at KPW
  have KF := Lib.hid KRF
  have hn0 : 0 < n := by have := (planF_ok h).2.1; omega
  have hnz : ((n : Int) == 0) = false := by simp; omega
  have HQ := Lib.hid (fun (W : World) (hb : Below w.heap.size w W) => who_cell s (hr.below hb) hn hn0)
  rw [hwho] at HQ
  have hm2 : 0 ≤ (s : Int) % n := Int.emod_nonneg _ (by omega)
  have hm3 : (s : Int) % n < n := Int.emod_lt_of_pos _ (by omega)
  have hn32 : n ≤ 32 := by have := (planF_ok h).2.2.1; omega
  have hs7 : ((s : Int) == 1000000) = false := by simp; omega
  have hpl : 1 ≤ pb ∧ pb ≤ 65536 := by rw [← hpb]; have := bitOf_lt hnd; have h3 := Nat.two_pow_pos (who.toNat - 1); unfold bitOf at *; omega
  have hb0 : Below w.heap.size w ((((w.alloc (.cells #[.int .i64 m, .int .i64 d, .int .i64 s] 49)).alloc (.cells #[.int .i64 0, .int .i64 0, .int .i64 0] 49)).alloc (.cells #[.int .i64 0, .int .i64 0, .bool false, .int .i64 0] 53)).alloc (.cells #[.int .i64 0, .int .i64 0] 42)) := ((((Below.refl _ _).alloc (Nat.le_refl _) _).alloc (by simp) _).alloc (by simp <;> omega) _).alloc (by simp <;> omega) _
  have b0 : Blok ((((w.alloc (.cells #[.int .i64 m, .int .i64 d, .int .i64 s] 49)).alloc (.cells #[.int .i64 0, .int .i64 0, .int .i64 0] 49)).alloc (.cells #[.int .i64 0, .int .i64 0, .bool false, .int .i64 0] 53)).alloc (.cells #[.int .i64 0, .int .i64 0] 42)) w.heap.size 49 #[.int .i64 m, .int .i64 d, .int .i64 s] := (((Blok.new w _ _).alloc _).alloc _).alloc _
  have b1 : Blok ((((w.alloc (.cells #[.int .i64 m, .int .i64 d, .int .i64 s] 49)).alloc (.cells #[.int .i64 0, .int .i64 0, .int .i64 0] 49)).alloc (.cells #[.int .i64 0, .int .i64 0, .bool false, .int .i64 0] 53)).alloc (.cells #[.int .i64 0, .int .i64 0] 42)) (w.heap.size + 1) 49 #[.int .i64 0, .int .i64 0, .int .i64 0] := by
    have := ((Blok.new (w.alloc (.cells #[.int .i64 m, .int .i64 d, .int .i64 s] 49)) 49 #[.int .i64 0, .int .i64 0, .int .i64 0]).alloc (.cells #[.int .i64 0, .int .i64 0, .bool false, .int .i64 0] 53)).alloc (.cells #[.int .i64 0, .int .i64 0] 42)
    rwa [World.size_alloc] at this
  have b2 : Blok ((((w.alloc (.cells #[.int .i64 m, .int .i64 d, .int .i64 s] 49)).alloc (.cells #[.int .i64 0, .int .i64 0, .int .i64 0] 49)).alloc (.cells #[.int .i64 0, .int .i64 0, .bool false, .int .i64 0] 53)).alloc (.cells #[.int .i64 0, .int .i64 0] 42)) (w.heap.size + 1 + 1) 53 #[.int .i64 0, .int .i64 0, .bool false, .int .i64 0] := by
    have := (Blok.new ((w.alloc (.cells #[.int .i64 m, .int .i64 d, .int .i64 s] 49)).alloc (.cells #[.int .i64 0, .int .i64 0, .int .i64 0] 49)) 53 #[.int .i64 0, .int .i64 0, .bool false, .int .i64 0]).alloc (.cells #[.int .i64 0, .int .i64 0] 42)
    rwa [World.size_alloc, World.size_alloc] at this
  have b3 : Blok ((((w.alloc (.cells #[.int .i64 m, .int .i64 d, .int .i64 s] 49)).alloc (.cells #[.int .i64 0, .int .i64 0, .int .i64 0] 49)).alloc (.cells #[.int .i64 0, .int .i64 0, .bool false, .int .i64 0] 53)).alloc (.cells #[.int .i64 0, .int .i64 0] 42)) (w.heap.size + 1 + 1 + 1) 42 #[.int .i64 0, .int .i64 0] := by
    have := Blok.new (((w.alloc (.cells #[.int .i64 m, .int .i64 d, .int .i64 s] 49)).alloc (.cells #[.int .i64 0, .int .i64 0, .int .i64 0] 49)).alloc (.cells #[.int .i64 0, .int .i64 0, .bool false, .int .i64 0] 53)) 42 #[.int .i64 0, .int .i64 0]
    rwa [World.size_alloc, World.size_alloc, World.size_alloc] at this
  clear hn hr h hV e2 hwho hpb hH hnd KRF
  go_enter Tryz.func35, Tryz.ntmps35
  go_wp2_with fail
  generalize hW0 : ((((w.alloc (.cells #[.int .i64 m, .int .i64 d, .int .i64 s] 49)).alloc (.cells #[.int .i64 0, .int .i64 0, .int .i64 0] 49)).alloc (.cells #[.int .i64 0, .int .i64 0, .bool false, .int .i64 0] 53)).alloc (.cells #[.int .i64 0, .int .i64 0] 42)) = W0 at *
  clear hW0
  refine (KP.out _ hb0).mono ?_
  rintro e w1 ⟨rfl, hB⟩
  have hv1 := hb0.trans (hB.mono hb0.size)
  have b0 := b0.kept hB
  have b1 := b1.kept hB
  have b2 := b2.kept hB
  have b3 := b3.kept hB
  have bf := Blok.new w1 42 #[.int .i64 0, .int .i64 (-1)]
  have hv2 := hv1.alloc hv1.size (.cells #[.int .i64 0, .int .i64 (-1)] 42)
  have hF := hv1.size
  have hE := b3.lt
  have b0 := b0.alloc (.cells #[.int .i64 0, .int .i64 (-1)] 42)
  have b1 := b1.alloc (.cells #[.int .i64 0, .int .i64 (-1)] 42)
  have b2 := b2.alloc (.cells #[.int .i64 0, .int .i64 (-1)] 42)
  have b3 := b3.alloc (.cells #[.int .i64 0, .int .i64 (-1)] 42)
  clear hB hb0
  have c0 := b0.cell 0 rfl
  have c1 := b0.cell 1 rfl
  have c2 := b0.cell 2 rfl
  have j0 := bf.cell 0 rfl
  have j1 := bf.cell 1 rfl
  have q0 := bf.frozen 0
  have q1 := bf.frozen 1
  go_wp2_with fail
  generalize hW2 : w1.alloc (.cells #[.int .i64 0, .int .i64 (-1)] 42) = w2 at *
  generalize w1.heap.size = F at *
  clear hW2
  have nf0 : ¬ (w.heap.size + 1 = F) := by omega
  have ng0 : ¬ (F = w.heap.size + 1) := by omega
  have nf1 : ¬ (w.heap.size + 1 + 1 = F) := by omega
  have ng1 : ¬ (F = w.heap.size + 1 + 1) := by omega
  have nf2 : ¬ (w.heap.size + 1 + 1 + 1 = F) := by omega
  have ng2 : ¬ (F = w.heap.size + 1 + 1 + 1) := by omega
  refine (KV.out _).mono ?_
  rintro e w3 ⟨rfl, hB⟩
  have hv3 := hv2.trans (hB.mono hv2.size)
  have b0 := b0.kept hB
  have b1 := b1.kept hB
  have b2 := b2.kept hB
  have b3 := b3.kept hB
  have bf := bf.kept hB
  clear hB hv2
  go_wp2_with fail
  refine (KB.out _).mono ?_
  rintro e w4 ⟨rfl, hB⟩
  have hv4 := hv3.trans (hB.mono hv3.size)
  have b0 := b0.kept hB
  have b1 := b1.kept hB
  have b2 := b2.kept hB
  have b3 := b3.kept hB
  have bf := bf.kept hB
  clear hB hv3 c0 c1 c2 j0 j1 q0 q1
  have c0 := b0.cell 0 rfl
  have c1 := b0.cell 1 rfl
  have c2 := b0.cell 2 rfl
  have j0 := bf.cell 0 rfl
  have j1 := bf.cell 1 rfl
  have q0 := bf.frozen 0
  have q1 := bf.frozen 1
  have hv5 := (hv4.setCell (show w.heap.size ≤ (⟨F, 0, none⟩ : Addr).block from hF) (.int .i64 0)).setCell (show w.heap.size ≤ (⟨F, 1, none⟩ : Addr).block from hF) (.int .i64 (-1))
  have bF := bf.two (.int .i64 0) (.int .i64 (-1))
  have B0 := (b0.setOther 0 (.int .i64 0) (show w.heap.size ≠ F by omega)).setOther 1 (.int .i64 (-1)) (show w.heap.size ≠ F by omega)
  have B1 := (b1.setOther 0 (.int .i64 0) (show w.heap.size + 1 ≠ F by omega)).setOther 1 (.int .i64 (-1)) (show w.heap.size + 1 ≠ F by omega)
  have B2 := (b2.setOther 0 (.int .i64 0) (show w.heap.size + 1 + 1 ≠ F by omega)).setOther 1 (.int .i64 (-1)) (show w.heap.size + 1 + 1 ≠ F by omega)
  have B3 := (b3.setOther 0 (.int .i64 0) (show w.heap.size + 1 + 1 + 1 ≠ F by omega)).setOther 1 (.int .i64 (-1)) (show w.heap.size + 1 + 1 + 1 ≠ F by omega)
  obtain ⟨b, off, rfl, hbl, u0⟩ := HQ.out _ hv5
  have d0 := bF.cell 0 rfl
  have y0 := B0.cell 0 rfl
  have y2 := B0.cell 2 rfl
  go_wp2_with fail
  refine (KH.out _).mono ?_
  rintro e w6 ⟨rfl, rfl⟩
  go_wp2_with fail
  refine (KPW.out _).mono ?_
  rintro e w6 ⟨rfl, rfl⟩
  go_wp2_with fail
  refine (KF.out _).mono ?_
  rintro e w6 ⟨rfl, hB⟩
  have hv6 := hv5.trans (hB.mono hv5.size)
  have b0 := B0.kept hB
  have b1 := B1.kept hB
  have b2 := B2.kept hB
  have b3 := B3.kept hB
  have bf := bF.kept hB
  clear hB hv5 hv4 bF B0 B1 B2 B3 c0 c1 c2 j0 j1 q0 q1 d0 y0 y2 u0 hbl HQ
  have br := Blok.new w6 88 #[.int .i64 x0, .int .i64 x1, .int .i64 x2, .int .i64 x3, .int .i64 x4]
  have hv7 := hv6.alloc hv6.size (.cells #[.int .i64 x0, .int .i64 x1, .int .i64 x2, .int .i64 x3, .int .i64 x4] 88)
  have hG := bf.lt
  have b0 := b0.alloc (.cells #[.int .i64 x0, .int .i64 x1, .int .i64 x2, .int .i64 x3, .int .i64 x4] 88)
  have b1 := b1.alloc (.cells #[.int .i64 x0, .int .i64 x1, .int .i64 x2, .int .i64 x3, .int .i64 x4] 88)
  have b2 := b2.alloc (.cells #[.int .i64 x0, .int .i64 x1, .int .i64 x2, .int .i64 x3, .int .i64 x4] 88)
  have b3 := b3.alloc (.cells #[.int .i64 x0, .int .i64 x1, .int .i64 x2, .int .i64 x3, .int .i64 x4] 88)
  have bf := bf.alloc (.cells #[.int .i64 x0, .int .i64 x1, .int .i64 x2, .int .i64 x3, .int .i64 x4] 88)
  have c1 := b0.cell 1 rfl
  have c2 := b0.cell 2 rfl
  have k0 := br.cell 0 rfl
  have k1 := br.cell 1 rfl
  have k2 := br.cell 2 rfl
  have k3 := br.cell 3 rfl
  have hz1 : (w6.alloc (.cells #[.int .i64 x0, .int .i64 x1, .int .i64 x2, .int .i64 x3, .int .i64 x4] 88)).heap.size = w6.heap.size + 1 := World.size_alloc _ _
  have hv8 := hv7.alloc hv7.size (.cells #[.int .i64 s, .int .i64 who, .bool false, .int .i64 0] 53)
  have m1 := (b0.alloc (.cells #[.int .i64 s, .int .i64 who, .bool false, .int .i64 0] 53)).cell 1 rfl
  have m2 := (b0.alloc (.cells #[.int .i64 s, .int .i64 who, .bool false, .int .i64 0] 53)).cell 2 rfl
  have bn := (Blok.new (w6.alloc (.cells #[.int .i64 x0, .int .i64 x1, .int .i64 x2, .int .i64 x3, .int .i64 x4] 88)) 53 #[.int .i64 s, .int .i64 who, .bool false, .int .i64 0]).alloc (.cells #[.int .i64 (m : Int), .int .i64 d, .int .i64 ((s : Int) + 1)] 49)
  rw [hz1] at bn
  have hv8 := hv7.alloc hv7.size (.cells #[.int .i64 s, .int .i64 who, .bool false, .int .i64 0] 53)
  have hz2 : ((w6.alloc (.cells #[.int .i64 x0, .int .i64 x1, .int .i64 x2, .int .i64 x3, .int .i64 x4] 88)).alloc (.cells #[.int .i64 s, .int .i64 who, .bool false, .int .i64 0] 53)).heap.size = w6.heap.size + 1 + 1 := by rw [World.size_alloc, World.size_alloc]
  have bv := Blok.new ((w6.alloc (.cells #[.int .i64 x0, .int .i64 x1, .int .i64 x2, .int .i64 x3, .int .i64 x4] 88)).alloc (.cells #[.int .i64 s, .int .i64 who, .bool false, .int .i64 0] 53)) 49 #[.int .i64 (m : Int), .int .i64 d, .int .i64 ((s : Int) + 1)]
  rw [hz2] at bv
  have hv9 := hv8.alloc hv8.size (.cells #[.int .i64 (m : Int), .int .i64 d, .int .i64 ((s : Int) + 1)] 49)
  have hs6 := hv6.size
  go_wp2
  have b1 := (b1.alloc (.cells #[.int .i64 s, .int .i64 who, .bool false, .int .i64 0] 53)).alloc (.cells #[.int .i64 (m : Int), .int .i64 d, .int .i64 ((s : Int) + 1)] 49)
  have b2 := (b2.alloc (.cells #[.int .i64 s, .int .i64 who, .bool false, .int .i64 0] 53)).alloc (.cells #[.int .i64 (m : Int), .int .i64 d, .int .i64 ((s : Int) + 1)] 49)
  have b3 := (b3.alloc (.cells #[.int .i64 s, .int .i64 who, .bool false, .int .i64 0] 53)).alloc (.cells #[.int .i64 (m : Int), .int .i64 d, .int .i64 ((s : Int) + 1)] 49)
  have bf := (bf.alloc (.cells #[.int .i64 s, .int .i64 who, .bool false, .int .i64 0] 53)).alloc (.cells #[.int .i64 (m : Int), .int .i64 d, .int .i64 ((s : Int) + 1)] 49)
  generalize hW9 : ((w6.alloc (.cells #[.int .i64 x0, .int .i64 x1, .int .i64 x2, .int .i64 x3, .int .i64 x4] 88)).alloc (.cells #[.int .i64 s, .int .i64 who, .bool false, .int .i64 0] 53)).alloc (.cells #[.int .i64 (m : Int), .int .i64 d, .int .i64 ((s : Int) + 1)] 49) = W9 at *
  clear hW9
  generalize w6.heap.size = G at *
  have ne0 : ¬ (G + 1 = F) := by omega
  have ne1 : ¬ (G + 1 + 1 = F) := by omega
  have ne2 : ¬ (G + 1 + 1 = G + 1) := by omega
  have ne3 : ¬ (G + 1 = G + 1 + 1) := by omega
  have ne4 : ¬ (G + 1 + 1 = G) := by omega
  have ne5 : ¬ (G + 1 = G) := by omega
  have ne6 : ¬ (F = G + 1) := by omega
  have ne7 : ¬ (F = G + 1 + 1) := by omega
  have ne8 : ¬ (G = G + 1) := by omega
  have ne9 : ¬ (G = G + 1 + 1) := by omega
  have ne10 : ¬ (w.heap.size + 1 = F) := by omega
  have ne11 : ¬ (F = w.heap.size + 1) := by omega
  have ne12 : ¬ (w.heap.size + 1 = G + 1) := by omega
  have ne13 : ¬ (G + 1 = w.heap.size + 1) := by omega
  have ne14 : ¬ (w.heap.size + 1 = G + 1 + 1) := by omega
  have ne15 : ¬ (G + 1 + 1 = w.heap.size + 1) := by omega
  have ne16 : ¬ (w.heap.size + 1 + 1 = F) := by omega
  have ne17 : ¬ (F = w.heap.size + 1 + 1) := by omega
  have ne18 : ¬ (w.heap.size + 1 + 1 = G + 1) := by omega
  have ne19 : ¬ (G + 1 = w.heap.size + 1 + 1) := by omega
  have ne20 : ¬ (w.heap.size + 1 + 1 = G + 1 + 1) := by omega
  have ne21 : ¬ (G + 1 + 1 = w.heap.size + 1 + 1) := by omega
  have ne22 : ¬ (w.heap.size + 1 + 1 + 1 = F) := by omega
  have ne23 : ¬ (F = w.heap.size + 1 + 1 + 1) := by omega
  have ne24 : ¬ (w.heap.size + 1 + 1 + 1 = G + 1) := by omega
  have ne25 : ¬ (G + 1 = w.heap.size + 1 + 1 + 1) := by omega
  have ne26 : ¬ (w.heap.size + 1 + 1 + 1 = G + 1 + 1) := by omega
  have ne27 : ¬ (G + 1 + 1 = w.heap.size + 1 + 1 + 1) := by omega
  have a0 := bn.cell 0 rfl
  have a1 := bn.cell 1 rfl
  have a2 := bn.cell 2 rfl
  have a3 := bn.cell 3 rfl
  have o0 := bv.cell 0 rfl
  have o1 := bv.cell 1 rfl
  have o2 := bv.cell 2 rfl
  have v0 := bn.frozen 0
  have v1 := bn.frozen 1
  have v2 := bn.frozen 2
  have v3 := bn.frozen 3
  have s0 := bv.frozen 0
  have hvZ := hv9
  have e0 := b1.cell 0 rfl
  have e1 := b1.cell 1 rfl
  have e2 := b1.cell 2 rfl
  have g0 := b2.cell 0 rfl
  have g1 := b2.cell 1 rfl
  have g2 := b2.cell 2 rfl
  have g3 := b2.cell 3 rfl
  have i0 := b3.cell 0 rfl
  have i1 := b3.cell 1 rfl
  have j0 := bf.cell 0 rfl
  have j1 := bf.cell 1 rfl
  have q0 := b1.frozen 0
  have q1 := b1.frozen 1
  have q2 := b1.frozen 2
  have r0 := b2.frozen 0
  have r1 := b2.frozen 1
  have r2 := b2.frozen 2
  have r3 := b2.frozen 3
  have u0 := b3.frozen 0
  have u1 := b3.frozen 1
  go_wp2
  go_region
  all_goals
    go_wp2
    refine bodyPost_ret (v := .tuple #[.agg #[.int .i64 (m : Int), .int .i64 d, .int .i64 ((s : Int) + 1)], .agg #[.int .i64 s, .int .i64 who, .bool false, .int .i64 0], .agg #[.int .i64 0, .int .i64 (-1)]]) (by simp [results, Tryz.results35, go_sem, e0, e1, e2, g0, g1, g2, g3, i0, i1]) rfl ?_
    refine ⟨rfl, ?_⟩
    repeat (first | (with_reducible exact hvZ) | (with_reducible refine Below.drew ?_) | (with_reducible refine Below.setCell ?_ (by first | omega | (simp <;> omega)) _))

set_option maxRecDepth 100000 in
set_option maxHeartbeats 3200000 in
theorem stepOf_n4 (a : Option Addr) (n cap : Nat) (l : List Int) (m pb s : Nat) (d ec x0 x1 x2 x3 x4 who : Int) (t : List UInt8) (w : World) (hn : l.length = n) (hr : RowAt w a (encInts l)) (hc : n ≤ 4611686018427387904) (h : (planF l).1 = 0) (hV : viewE m d s = 0) (hs : s < 1000000) (hwho : whoV l s = who) (hm : m < 65536) (hpb : bitOf who = pb) (hH : hasB m who = false) (KRF : ∀ W : World, Calls Tryz.prog 63 #[.string ⟨t.toArray⟩] W fun e w' => e = .returned (.tuple #[.agg #[.int .i64 x0, .int .i64 x1, .int .i64 x2, .int .i64 x3, .int .i64 x4], .int .i64 ec]) ∧ Below W.heap.size W w') (h0 : (ec == 0) = true) (h1 : (x0 == who) = true) (h2 : (x1 == ((m : Int) + (pb : Int))) = true) (h3 : (x2 == d) = false) :
    Calls Tryz.prog 35 #[.slice a n cap, .agg #[.int .i64 m, .int .i64 d, .int .i64 s], .string ⟨t.toArray⟩] w fun e w' =>
      e = .returned (.tuple #[.agg #[.int .i64 (m : Int), .int .i64 d, .int .i64 ((s : Int) + 1)], .agg #[.int .i64 s, .int .i64 who, .bool false, .int .i64 0], .agg #[.int .i64 0, .int .i64 (-1)]]) ∧ Below w.heap.size w w' := by
  have KP := Lib.hid (fun (W : World) (h : Below w.heap.size w W) => planFault_any a n cap l W hn (hr.below h) hc)
  have e0 : (((0 : Nat), (-1 : Int)).1 : Int) = 0 := rfl
  have e1 : (((0 : Nat), (-1 : Int)).2 : Int) = -1 := rfl
  rw [(planF_ok h).1, e0, e1] at KP
  clear e0 e1
  have KV := Lib.hid (fun W : World => viewError_any m d s W)
  have KB := Lib.hid (fun W : World => bare_any 0 W)
  have e2 : ((0 : Nat) : Int) = 0 := rfl
  rw [hV, e2] at KV
  have hnd : nodeB who = true := by rw [← hwho]; exact (planF_ok h).2.2.2 _ (whoV_mem l _ (planF_ok h).2.1)
  have KH := Lib.hid (fun W : World => refHas_any m who W)
  rw [hH] at KH
  have KPW := Lib.hid (fun W : World => power_who who W hnd)
  rw [hpb] at KPW
  have KF := Lib.hid KRF
  have hn0 : 0 < n := by have := (planF_ok h).2.1; omega
  have hnz : ((n : Int) == 0) = false := by simp; omega
  have HQ := Lib.hid (fun (W : World) (hb : Below w.heap.size w W) => who_cell s (hr.below hb) hn hn0)
  rw [hwho] at HQ
  have hm2 : 0 ≤ (s : Int) % n := Int.emod_nonneg _ (by omega)
  have hm3 : (s : Int) % n < n := Int.emod_lt_of_pos _ (by omega)
  have hn32 : n ≤ 32 := by have := (planF_ok h).2.2.1; omega
  have hs7 : ((s : Int) == 1000000) = false := by simp; omega
  have hpl : 1 ≤ pb ∧ pb ≤ 65536 := by rw [← hpb]; have := bitOf_lt hnd; have h3 := Nat.two_pow_pos (who.toNat - 1); unfold bitOf at *; omega
  have hb0 : Below w.heap.size w ((((w.alloc (.cells #[.int .i64 m, .int .i64 d, .int .i64 s] 49)).alloc (.cells #[.int .i64 0, .int .i64 0, .int .i64 0] 49)).alloc (.cells #[.int .i64 0, .int .i64 0, .bool false, .int .i64 0] 53)).alloc (.cells #[.int .i64 0, .int .i64 0] 42)) := ((((Below.refl _ _).alloc (Nat.le_refl _) _).alloc (by simp) _).alloc (by simp <;> omega) _).alloc (by simp <;> omega) _
  have b0 : Blok ((((w.alloc (.cells #[.int .i64 m, .int .i64 d, .int .i64 s] 49)).alloc (.cells #[.int .i64 0, .int .i64 0, .int .i64 0] 49)).alloc (.cells #[.int .i64 0, .int .i64 0, .bool false, .int .i64 0] 53)).alloc (.cells #[.int .i64 0, .int .i64 0] 42)) w.heap.size 49 #[.int .i64 m, .int .i64 d, .int .i64 s] := (((Blok.new w _ _).alloc _).alloc _).alloc _
  have b1 : Blok ((((w.alloc (.cells #[.int .i64 m, .int .i64 d, .int .i64 s] 49)).alloc (.cells #[.int .i64 0, .int .i64 0, .int .i64 0] 49)).alloc (.cells #[.int .i64 0, .int .i64 0, .bool false, .int .i64 0] 53)).alloc (.cells #[.int .i64 0, .int .i64 0] 42)) (w.heap.size + 1) 49 #[.int .i64 0, .int .i64 0, .int .i64 0] := by
    have := ((Blok.new (w.alloc (.cells #[.int .i64 m, .int .i64 d, .int .i64 s] 49)) 49 #[.int .i64 0, .int .i64 0, .int .i64 0]).alloc (.cells #[.int .i64 0, .int .i64 0, .bool false, .int .i64 0] 53)).alloc (.cells #[.int .i64 0, .int .i64 0] 42)
    rwa [World.size_alloc] at this
  have b2 : Blok ((((w.alloc (.cells #[.int .i64 m, .int .i64 d, .int .i64 s] 49)).alloc (.cells #[.int .i64 0, .int .i64 0, .int .i64 0] 49)).alloc (.cells #[.int .i64 0, .int .i64 0, .bool false, .int .i64 0] 53)).alloc (.cells #[.int .i64 0, .int .i64 0] 42)) (w.heap.size + 1 + 1) 53 #[.int .i64 0, .int .i64 0, .bool false, .int .i64 0] := by
    have := (Blok.new ((w.alloc (.cells #[.int .i64 m, .int .i64 d, .int .i64 s] 49)).alloc (.cells #[.int .i64 0, .int .i64 0, .int .i64 0] 49)) 53 #[.int .i64 0, .int .i64 0, .bool false, .int .i64 0]).alloc (.cells #[.int .i64 0, .int .i64 0] 42)
    rwa [World.size_alloc, World.size_alloc] at this
  have b3 : Blok ((((w.alloc (.cells #[.int .i64 m, .int .i64 d, .int .i64 s] 49)).alloc (.cells #[.int .i64 0, .int .i64 0, .int .i64 0] 49)).alloc (.cells #[.int .i64 0, .int .i64 0, .bool false, .int .i64 0] 53)).alloc (.cells #[.int .i64 0, .int .i64 0] 42)) (w.heap.size + 1 + 1 + 1) 42 #[.int .i64 0, .int .i64 0] := by
    have := Blok.new (((w.alloc (.cells #[.int .i64 m, .int .i64 d, .int .i64 s] 49)).alloc (.cells #[.int .i64 0, .int .i64 0, .int .i64 0] 49)).alloc (.cells #[.int .i64 0, .int .i64 0, .bool false, .int .i64 0] 53)) 42 #[.int .i64 0, .int .i64 0]
    rwa [World.size_alloc, World.size_alloc, World.size_alloc] at this
  clear hn hr h hV e2 hwho hpb hH hnd KRF
  go_enter Tryz.func35, Tryz.ntmps35
  go_wp2_with fail
  generalize hW0 : ((((w.alloc (.cells #[.int .i64 m, .int .i64 d, .int .i64 s] 49)).alloc (.cells #[.int .i64 0, .int .i64 0, .int .i64 0] 49)).alloc (.cells #[.int .i64 0, .int .i64 0, .bool false, .int .i64 0] 53)).alloc (.cells #[.int .i64 0, .int .i64 0] 42)) = W0 at *
  clear hW0
  refine (KP.out _ hb0).mono ?_
  rintro e w1 ⟨rfl, hB⟩
  have hv1 := hb0.trans (hB.mono hb0.size)
  have b0 := b0.kept hB
  have b1 := b1.kept hB
  have b2 := b2.kept hB
  have b3 := b3.kept hB
  have bf := Blok.new w1 42 #[.int .i64 0, .int .i64 (-1)]
  have hv2 := hv1.alloc hv1.size (.cells #[.int .i64 0, .int .i64 (-1)] 42)
  have hF := hv1.size
  have hE := b3.lt
  have b0 := b0.alloc (.cells #[.int .i64 0, .int .i64 (-1)] 42)
  have b1 := b1.alloc (.cells #[.int .i64 0, .int .i64 (-1)] 42)
  have b2 := b2.alloc (.cells #[.int .i64 0, .int .i64 (-1)] 42)
  have b3 := b3.alloc (.cells #[.int .i64 0, .int .i64 (-1)] 42)
  clear hB hb0
  have c0 := b0.cell 0 rfl
  have c1 := b0.cell 1 rfl
  have c2 := b0.cell 2 rfl
  have j0 := bf.cell 0 rfl
  have j1 := bf.cell 1 rfl
  have q0 := bf.frozen 0
  have q1 := bf.frozen 1
  go_wp2_with fail
  generalize hW2 : w1.alloc (.cells #[.int .i64 0, .int .i64 (-1)] 42) = w2 at *
  generalize w1.heap.size = F at *
  clear hW2
  have nf0 : ¬ (w.heap.size + 1 = F) := by omega
  have ng0 : ¬ (F = w.heap.size + 1) := by omega
  have nf1 : ¬ (w.heap.size + 1 + 1 = F) := by omega
  have ng1 : ¬ (F = w.heap.size + 1 + 1) := by omega
  have nf2 : ¬ (w.heap.size + 1 + 1 + 1 = F) := by omega
  have ng2 : ¬ (F = w.heap.size + 1 + 1 + 1) := by omega
  refine (KV.out _).mono ?_
  rintro e w3 ⟨rfl, hB⟩
  have hv3 := hv2.trans (hB.mono hv2.size)
  have b0 := b0.kept hB
  have b1 := b1.kept hB
  have b2 := b2.kept hB
  have b3 := b3.kept hB
  have bf := bf.kept hB
  clear hB hv2
  go_wp2_with fail
  refine (KB.out _).mono ?_
  rintro e w4 ⟨rfl, hB⟩
  have hv4 := hv3.trans (hB.mono hv3.size)
  have b0 := b0.kept hB
  have b1 := b1.kept hB
  have b2 := b2.kept hB
  have b3 := b3.kept hB
  have bf := bf.kept hB
  clear hB hv3 c0 c1 c2 j0 j1 q0 q1
  have c0 := b0.cell 0 rfl
  have c1 := b0.cell 1 rfl
  have c2 := b0.cell 2 rfl
  have j0 := bf.cell 0 rfl
  have j1 := bf.cell 1 rfl
  have q0 := bf.frozen 0
  have q1 := bf.frozen 1
  have hv5 := (hv4.setCell (show w.heap.size ≤ (⟨F, 0, none⟩ : Addr).block from hF) (.int .i64 0)).setCell (show w.heap.size ≤ (⟨F, 1, none⟩ : Addr).block from hF) (.int .i64 (-1))
  have bF := bf.two (.int .i64 0) (.int .i64 (-1))
  have B0 := (b0.setOther 0 (.int .i64 0) (show w.heap.size ≠ F by omega)).setOther 1 (.int .i64 (-1)) (show w.heap.size ≠ F by omega)
  have B1 := (b1.setOther 0 (.int .i64 0) (show w.heap.size + 1 ≠ F by omega)).setOther 1 (.int .i64 (-1)) (show w.heap.size + 1 ≠ F by omega)
  have B2 := (b2.setOther 0 (.int .i64 0) (show w.heap.size + 1 + 1 ≠ F by omega)).setOther 1 (.int .i64 (-1)) (show w.heap.size + 1 + 1 ≠ F by omega)
  have B3 := (b3.setOther 0 (.int .i64 0) (show w.heap.size + 1 + 1 + 1 ≠ F by omega)).setOther 1 (.int .i64 (-1)) (show w.heap.size + 1 + 1 + 1 ≠ F by omega)
  obtain ⟨b, off, rfl, hbl, u0⟩ := HQ.out _ hv5
  have d0 := bF.cell 0 rfl
  have y0 := B0.cell 0 rfl
  have y2 := B0.cell 2 rfl
  go_wp2_with fail
  refine (KH.out _).mono ?_
  rintro e w6 ⟨rfl, rfl⟩
  go_wp2_with fail
  refine (KPW.out _).mono ?_
  rintro e w6 ⟨rfl, rfl⟩
  go_wp2_with fail
  refine (KF.out _).mono ?_
  rintro e w6 ⟨rfl, hB⟩
  have hv6 := hv5.trans (hB.mono hv5.size)
  have b0 := B0.kept hB
  have b1 := B1.kept hB
  have b2 := B2.kept hB
  have b3 := B3.kept hB
  have bf := bF.kept hB
  clear hB hv5 hv4 bF B0 B1 B2 B3 c0 c1 c2 j0 j1 q0 q1 d0 y0 y2 u0 hbl HQ
  have br := Blok.new w6 88 #[.int .i64 x0, .int .i64 x1, .int .i64 x2, .int .i64 x3, .int .i64 x4]
  have hv7 := hv6.alloc hv6.size (.cells #[.int .i64 x0, .int .i64 x1, .int .i64 x2, .int .i64 x3, .int .i64 x4] 88)
  have hG := bf.lt
  have b0 := b0.alloc (.cells #[.int .i64 x0, .int .i64 x1, .int .i64 x2, .int .i64 x3, .int .i64 x4] 88)
  have b1 := b1.alloc (.cells #[.int .i64 x0, .int .i64 x1, .int .i64 x2, .int .i64 x3, .int .i64 x4] 88)
  have b2 := b2.alloc (.cells #[.int .i64 x0, .int .i64 x1, .int .i64 x2, .int .i64 x3, .int .i64 x4] 88)
  have b3 := b3.alloc (.cells #[.int .i64 x0, .int .i64 x1, .int .i64 x2, .int .i64 x3, .int .i64 x4] 88)
  have bf := bf.alloc (.cells #[.int .i64 x0, .int .i64 x1, .int .i64 x2, .int .i64 x3, .int .i64 x4] 88)
  have c1 := b0.cell 1 rfl
  have c2 := b0.cell 2 rfl
  have k0 := br.cell 0 rfl
  have k1 := br.cell 1 rfl
  have k2 := br.cell 2 rfl
  have k3 := br.cell 3 rfl
  have hz1 : (w6.alloc (.cells #[.int .i64 x0, .int .i64 x1, .int .i64 x2, .int .i64 x3, .int .i64 x4] 88)).heap.size = w6.heap.size + 1 := World.size_alloc _ _
  have hv8 := hv7.alloc hv7.size (.cells #[.int .i64 s, .int .i64 who, .bool false, .int .i64 0] 53)
  have m1 := (b0.alloc (.cells #[.int .i64 s, .int .i64 who, .bool false, .int .i64 0] 53)).cell 1 rfl
  have m2 := (b0.alloc (.cells #[.int .i64 s, .int .i64 who, .bool false, .int .i64 0] 53)).cell 2 rfl
  have bn := (Blok.new (w6.alloc (.cells #[.int .i64 x0, .int .i64 x1, .int .i64 x2, .int .i64 x3, .int .i64 x4] 88)) 53 #[.int .i64 s, .int .i64 who, .bool false, .int .i64 0]).alloc (.cells #[.int .i64 (m : Int), .int .i64 d, .int .i64 ((s : Int) + 1)] 49)
  rw [hz1] at bn
  have hv8 := hv7.alloc hv7.size (.cells #[.int .i64 s, .int .i64 who, .bool false, .int .i64 0] 53)
  have hz2 : ((w6.alloc (.cells #[.int .i64 x0, .int .i64 x1, .int .i64 x2, .int .i64 x3, .int .i64 x4] 88)).alloc (.cells #[.int .i64 s, .int .i64 who, .bool false, .int .i64 0] 53)).heap.size = w6.heap.size + 1 + 1 := by rw [World.size_alloc, World.size_alloc]
  have bv := Blok.new ((w6.alloc (.cells #[.int .i64 x0, .int .i64 x1, .int .i64 x2, .int .i64 x3, .int .i64 x4] 88)).alloc (.cells #[.int .i64 s, .int .i64 who, .bool false, .int .i64 0] 53)) 49 #[.int .i64 (m : Int), .int .i64 d, .int .i64 ((s : Int) + 1)]
  rw [hz2] at bv
  have hv9 := hv8.alloc hv8.size (.cells #[.int .i64 (m : Int), .int .i64 d, .int .i64 ((s : Int) + 1)] 49)
  have hs6 := hv6.size
  go_wp2
  have b1 := (b1.alloc (.cells #[.int .i64 s, .int .i64 who, .bool false, .int .i64 0] 53)).alloc (.cells #[.int .i64 (m : Int), .int .i64 d, .int .i64 ((s : Int) + 1)] 49)
  have b2 := (b2.alloc (.cells #[.int .i64 s, .int .i64 who, .bool false, .int .i64 0] 53)).alloc (.cells #[.int .i64 (m : Int), .int .i64 d, .int .i64 ((s : Int) + 1)] 49)
  have b3 := (b3.alloc (.cells #[.int .i64 s, .int .i64 who, .bool false, .int .i64 0] 53)).alloc (.cells #[.int .i64 (m : Int), .int .i64 d, .int .i64 ((s : Int) + 1)] 49)
  have bf := (bf.alloc (.cells #[.int .i64 s, .int .i64 who, .bool false, .int .i64 0] 53)).alloc (.cells #[.int .i64 (m : Int), .int .i64 d, .int .i64 ((s : Int) + 1)] 49)
  generalize hW9 : ((w6.alloc (.cells #[.int .i64 x0, .int .i64 x1, .int .i64 x2, .int .i64 x3, .int .i64 x4] 88)).alloc (.cells #[.int .i64 s, .int .i64 who, .bool false, .int .i64 0] 53)).alloc (.cells #[.int .i64 (m : Int), .int .i64 d, .int .i64 ((s : Int) + 1)] 49) = W9 at *
  clear hW9
  generalize w6.heap.size = G at *
  have ne0 : ¬ (G + 1 = F) := by omega
  have ne1 : ¬ (G + 1 + 1 = F) := by omega
  have ne2 : ¬ (G + 1 + 1 = G + 1) := by omega
  have ne3 : ¬ (G + 1 = G + 1 + 1) := by omega
  have ne4 : ¬ (G + 1 + 1 = G) := by omega
  have ne5 : ¬ (G + 1 = G) := by omega
  have ne6 : ¬ (F = G + 1) := by omega
  have ne7 : ¬ (F = G + 1 + 1) := by omega
  have ne8 : ¬ (G = G + 1) := by omega
  have ne9 : ¬ (G = G + 1 + 1) := by omega
  have ne10 : ¬ (w.heap.size + 1 = F) := by omega
  have ne11 : ¬ (F = w.heap.size + 1) := by omega
  have ne12 : ¬ (w.heap.size + 1 = G + 1) := by omega
  have ne13 : ¬ (G + 1 = w.heap.size + 1) := by omega
  have ne14 : ¬ (w.heap.size + 1 = G + 1 + 1) := by omega
  have ne15 : ¬ (G + 1 + 1 = w.heap.size + 1) := by omega
  have ne16 : ¬ (w.heap.size + 1 + 1 = F) := by omega
  have ne17 : ¬ (F = w.heap.size + 1 + 1) := by omega
  have ne18 : ¬ (w.heap.size + 1 + 1 = G + 1) := by omega
  have ne19 : ¬ (G + 1 = w.heap.size + 1 + 1) := by omega
  have ne20 : ¬ (w.heap.size + 1 + 1 = G + 1 + 1) := by omega
  have ne21 : ¬ (G + 1 + 1 = w.heap.size + 1 + 1) := by omega
  have ne22 : ¬ (w.heap.size + 1 + 1 + 1 = F) := by omega
  have ne23 : ¬ (F = w.heap.size + 1 + 1 + 1) := by omega
  have ne24 : ¬ (w.heap.size + 1 + 1 + 1 = G + 1) := by omega
  have ne25 : ¬ (G + 1 = w.heap.size + 1 + 1 + 1) := by omega
  have ne26 : ¬ (w.heap.size + 1 + 1 + 1 = G + 1 + 1) := by omega
  have ne27 : ¬ (G + 1 + 1 = w.heap.size + 1 + 1 + 1) := by omega
  have a0 := bn.cell 0 rfl
  have a1 := bn.cell 1 rfl
  have a2 := bn.cell 2 rfl
  have a3 := bn.cell 3 rfl
  have o0 := bv.cell 0 rfl
  have o1 := bv.cell 1 rfl
  have o2 := bv.cell 2 rfl
  have v0 := bn.frozen 0
  have v1 := bn.frozen 1
  have v2 := bn.frozen 2
  have v3 := bn.frozen 3
  have s0 := bv.frozen 0
  have hvZ := hv9
  have e0 := b1.cell 0 rfl
  have e1 := b1.cell 1 rfl
  have e2 := b1.cell 2 rfl
  have g0 := b2.cell 0 rfl
  have g1 := b2.cell 1 rfl
  have g2 := b2.cell 2 rfl
  have g3 := b2.cell 3 rfl
  have i0 := b3.cell 0 rfl
  have i1 := b3.cell 1 rfl
  have j0 := bf.cell 0 rfl
  have j1 := bf.cell 1 rfl
  have q0 := b1.frozen 0
  have q1 := b1.frozen 1
  have q2 := b1.frozen 2
  have r0 := b2.frozen 0
  have r1 := b2.frozen 1
  have r2 := b2.frozen 2
  have r3 := b2.frozen 3
  have u0 := b3.frozen 0
  have u1 := b3.frozen 1
  go_wp2
  go_region
  all_goals
    go_wp2
    refine bodyPost_ret (v := .tuple #[.agg #[.int .i64 (m : Int), .int .i64 d, .int .i64 ((s : Int) + 1)], .agg #[.int .i64 s, .int .i64 who, .bool false, .int .i64 0], .agg #[.int .i64 0, .int .i64 (-1)]]) (by simp [results, Tryz.results35, go_sem, e0, e1, e2, g0, g1, g2, g3, i0, i1]) rfl ?_
    refine ⟨rfl, ?_⟩
    repeat (first | (with_reducible exact hvZ) | (with_reducible refine Below.drew ?_) | (with_reducible refine Below.setCell ?_ (by first | omega | (simp <;> omega)) _))

set_option maxRecDepth 100000 in
set_option maxHeartbeats 3200000 in
theorem stepOf_n5 (a : Option Addr) (n cap : Nat) (l : List Int) (m pb s : Nat) (d ec x0 x1 x2 x3 x4 who : Int) (t : List UInt8) (w : World) (hn : l.length = n) (hr : RowAt w a (encInts l)) (hc : n ≤ 4611686018427387904) (h : (planF l).1 = 0) (hV : viewE m d s = 0) (hs : s < 1000000) (hwho : whoV l s = who) (hm : m < 65536) (hpb : bitOf who = pb) (hH : hasB m who = false) (KRF : ∀ W : World, Calls Tryz.prog 63 #[.string ⟨t.toArray⟩] W fun e w' => e = .returned (.tuple #[.agg #[.int .i64 x0, .int .i64 x1, .int .i64 x2, .int .i64 x3, .int .i64 x4], .int .i64 ec]) ∧ Below W.heap.size W w') (h0 : (ec == 0) = true) (h1 : (x0 == who) = true) (h2 : (x1 == ((m : Int) + (pb : Int))) = true) (h3 : (x2 == d) = true) (h4 : (x3 == (s : Int)) = false) :
    Calls Tryz.prog 35 #[.slice a n cap, .agg #[.int .i64 m, .int .i64 d, .int .i64 s], .string ⟨t.toArray⟩] w fun e w' =>
      e = .returned (.tuple #[.agg #[.int .i64 (m : Int), .int .i64 d, .int .i64 ((s : Int) + 1)], .agg #[.int .i64 s, .int .i64 who, .bool false, .int .i64 0], .agg #[.int .i64 0, .int .i64 (-1)]]) ∧ Below w.heap.size w w' := by
  have KP := Lib.hid (fun (W : World) (h : Below w.heap.size w W) => planFault_any a n cap l W hn (hr.below h) hc)
  have e0 : (((0 : Nat), (-1 : Int)).1 : Int) = 0 := rfl
  have e1 : (((0 : Nat), (-1 : Int)).2 : Int) = -1 := rfl
  rw [(planF_ok h).1, e0, e1] at KP
  clear e0 e1
  have KV := Lib.hid (fun W : World => viewError_any m d s W)
  have KB := Lib.hid (fun W : World => bare_any 0 W)
  have e2 : ((0 : Nat) : Int) = 0 := rfl
  rw [hV, e2] at KV
  have hnd : nodeB who = true := by rw [← hwho]; exact (planF_ok h).2.2.2 _ (whoV_mem l _ (planF_ok h).2.1)
  have KH := Lib.hid (fun W : World => refHas_any m who W)
  rw [hH] at KH
  have KPW := Lib.hid (fun W : World => power_who who W hnd)
  rw [hpb] at KPW
  have KF := Lib.hid KRF
  have hn0 : 0 < n := by have := (planF_ok h).2.1; omega
  have hnz : ((n : Int) == 0) = false := by simp; omega
  have HQ := Lib.hid (fun (W : World) (hb : Below w.heap.size w W) => who_cell s (hr.below hb) hn hn0)
  rw [hwho] at HQ
  have hm2 : 0 ≤ (s : Int) % n := Int.emod_nonneg _ (by omega)
  have hm3 : (s : Int) % n < n := Int.emod_lt_of_pos _ (by omega)
  have hn32 : n ≤ 32 := by have := (planF_ok h).2.2.1; omega
  have hs7 : ((s : Int) == 1000000) = false := by simp; omega
  have hpl : 1 ≤ pb ∧ pb ≤ 65536 := by rw [← hpb]; have := bitOf_lt hnd; have h3 := Nat.two_pow_pos (who.toNat - 1); unfold bitOf at *; omega
  have hb0 : Below w.heap.size w ((((w.alloc (.cells #[.int .i64 m, .int .i64 d, .int .i64 s] 49)).alloc (.cells #[.int .i64 0, .int .i64 0, .int .i64 0] 49)).alloc (.cells #[.int .i64 0, .int .i64 0, .bool false, .int .i64 0] 53)).alloc (.cells #[.int .i64 0, .int .i64 0] 42)) := ((((Below.refl _ _).alloc (Nat.le_refl _) _).alloc (by simp) _).alloc (by simp <;> omega) _).alloc (by simp <;> omega) _
  have b0 : Blok ((((w.alloc (.cells #[.int .i64 m, .int .i64 d, .int .i64 s] 49)).alloc (.cells #[.int .i64 0, .int .i64 0, .int .i64 0] 49)).alloc (.cells #[.int .i64 0, .int .i64 0, .bool false, .int .i64 0] 53)).alloc (.cells #[.int .i64 0, .int .i64 0] 42)) w.heap.size 49 #[.int .i64 m, .int .i64 d, .int .i64 s] := (((Blok.new w _ _).alloc _).alloc _).alloc _
  have b1 : Blok ((((w.alloc (.cells #[.int .i64 m, .int .i64 d, .int .i64 s] 49)).alloc (.cells #[.int .i64 0, .int .i64 0, .int .i64 0] 49)).alloc (.cells #[.int .i64 0, .int .i64 0, .bool false, .int .i64 0] 53)).alloc (.cells #[.int .i64 0, .int .i64 0] 42)) (w.heap.size + 1) 49 #[.int .i64 0, .int .i64 0, .int .i64 0] := by
    have := ((Blok.new (w.alloc (.cells #[.int .i64 m, .int .i64 d, .int .i64 s] 49)) 49 #[.int .i64 0, .int .i64 0, .int .i64 0]).alloc (.cells #[.int .i64 0, .int .i64 0, .bool false, .int .i64 0] 53)).alloc (.cells #[.int .i64 0, .int .i64 0] 42)
    rwa [World.size_alloc] at this
  have b2 : Blok ((((w.alloc (.cells #[.int .i64 m, .int .i64 d, .int .i64 s] 49)).alloc (.cells #[.int .i64 0, .int .i64 0, .int .i64 0] 49)).alloc (.cells #[.int .i64 0, .int .i64 0, .bool false, .int .i64 0] 53)).alloc (.cells #[.int .i64 0, .int .i64 0] 42)) (w.heap.size + 1 + 1) 53 #[.int .i64 0, .int .i64 0, .bool false, .int .i64 0] := by
    have := (Blok.new ((w.alloc (.cells #[.int .i64 m, .int .i64 d, .int .i64 s] 49)).alloc (.cells #[.int .i64 0, .int .i64 0, .int .i64 0] 49)) 53 #[.int .i64 0, .int .i64 0, .bool false, .int .i64 0]).alloc (.cells #[.int .i64 0, .int .i64 0] 42)
    rwa [World.size_alloc, World.size_alloc] at this
  have b3 : Blok ((((w.alloc (.cells #[.int .i64 m, .int .i64 d, .int .i64 s] 49)).alloc (.cells #[.int .i64 0, .int .i64 0, .int .i64 0] 49)).alloc (.cells #[.int .i64 0, .int .i64 0, .bool false, .int .i64 0] 53)).alloc (.cells #[.int .i64 0, .int .i64 0] 42)) (w.heap.size + 1 + 1 + 1) 42 #[.int .i64 0, .int .i64 0] := by
    have := Blok.new (((w.alloc (.cells #[.int .i64 m, .int .i64 d, .int .i64 s] 49)).alloc (.cells #[.int .i64 0, .int .i64 0, .int .i64 0] 49)).alloc (.cells #[.int .i64 0, .int .i64 0, .bool false, .int .i64 0] 53)) 42 #[.int .i64 0, .int .i64 0]
    rwa [World.size_alloc, World.size_alloc, World.size_alloc] at this
  clear hn hr h hV e2 hwho hpb hH hnd KRF
  go_enter Tryz.func35, Tryz.ntmps35
  go_wp2_with fail
  generalize hW0 : ((((w.alloc (.cells #[.int .i64 m, .int .i64 d, .int .i64 s] 49)).alloc (.cells #[.int .i64 0, .int .i64 0, .int .i64 0] 49)).alloc (.cells #[.int .i64 0, .int .i64 0, .bool false, .int .i64 0] 53)).alloc (.cells #[.int .i64 0, .int .i64 0] 42)) = W0 at *
  clear hW0
  refine (KP.out _ hb0).mono ?_
  rintro e w1 ⟨rfl, hB⟩
  have hv1 := hb0.trans (hB.mono hb0.size)
  have b0 := b0.kept hB
  have b1 := b1.kept hB
  have b2 := b2.kept hB
  have b3 := b3.kept hB
  have bf := Blok.new w1 42 #[.int .i64 0, .int .i64 (-1)]
  have hv2 := hv1.alloc hv1.size (.cells #[.int .i64 0, .int .i64 (-1)] 42)
  have hF := hv1.size
  have hE := b3.lt
  have b0 := b0.alloc (.cells #[.int .i64 0, .int .i64 (-1)] 42)
  have b1 := b1.alloc (.cells #[.int .i64 0, .int .i64 (-1)] 42)
  have b2 := b2.alloc (.cells #[.int .i64 0, .int .i64 (-1)] 42)
  have b3 := b3.alloc (.cells #[.int .i64 0, .int .i64 (-1)] 42)
  clear hB hb0
  have c0 := b0.cell 0 rfl
  have c1 := b0.cell 1 rfl
  have c2 := b0.cell 2 rfl
  have j0 := bf.cell 0 rfl
  have j1 := bf.cell 1 rfl
  have q0 := bf.frozen 0
  have q1 := bf.frozen 1
  go_wp2_with fail
  generalize hW2 : w1.alloc (.cells #[.int .i64 0, .int .i64 (-1)] 42) = w2 at *
  generalize w1.heap.size = F at *
  clear hW2
  have nf0 : ¬ (w.heap.size + 1 = F) := by omega
  have ng0 : ¬ (F = w.heap.size + 1) := by omega
  have nf1 : ¬ (w.heap.size + 1 + 1 = F) := by omega
  have ng1 : ¬ (F = w.heap.size + 1 + 1) := by omega
  have nf2 : ¬ (w.heap.size + 1 + 1 + 1 = F) := by omega
  have ng2 : ¬ (F = w.heap.size + 1 + 1 + 1) := by omega
  refine (KV.out _).mono ?_
  rintro e w3 ⟨rfl, hB⟩
  have hv3 := hv2.trans (hB.mono hv2.size)
  have b0 := b0.kept hB
  have b1 := b1.kept hB
  have b2 := b2.kept hB
  have b3 := b3.kept hB
  have bf := bf.kept hB
  clear hB hv2
  go_wp2_with fail
  refine (KB.out _).mono ?_
  rintro e w4 ⟨rfl, hB⟩
  have hv4 := hv3.trans (hB.mono hv3.size)
  have b0 := b0.kept hB
  have b1 := b1.kept hB
  have b2 := b2.kept hB
  have b3 := b3.kept hB
  have bf := bf.kept hB
  clear hB hv3 c0 c1 c2 j0 j1 q0 q1
  have c0 := b0.cell 0 rfl
  have c1 := b0.cell 1 rfl
  have c2 := b0.cell 2 rfl
  have j0 := bf.cell 0 rfl
  have j1 := bf.cell 1 rfl
  have q0 := bf.frozen 0
  have q1 := bf.frozen 1
  have hv5 := (hv4.setCell (show w.heap.size ≤ (⟨F, 0, none⟩ : Addr).block from hF) (.int .i64 0)).setCell (show w.heap.size ≤ (⟨F, 1, none⟩ : Addr).block from hF) (.int .i64 (-1))
  have bF := bf.two (.int .i64 0) (.int .i64 (-1))
  have B0 := (b0.setOther 0 (.int .i64 0) (show w.heap.size ≠ F by omega)).setOther 1 (.int .i64 (-1)) (show w.heap.size ≠ F by omega)
  have B1 := (b1.setOther 0 (.int .i64 0) (show w.heap.size + 1 ≠ F by omega)).setOther 1 (.int .i64 (-1)) (show w.heap.size + 1 ≠ F by omega)
  have B2 := (b2.setOther 0 (.int .i64 0) (show w.heap.size + 1 + 1 ≠ F by omega)).setOther 1 (.int .i64 (-1)) (show w.heap.size + 1 + 1 ≠ F by omega)
  have B3 := (b3.setOther 0 (.int .i64 0) (show w.heap.size + 1 + 1 + 1 ≠ F by omega)).setOther 1 (.int .i64 (-1)) (show w.heap.size + 1 + 1 + 1 ≠ F by omega)
  obtain ⟨b, off, rfl, hbl, u0⟩ := HQ.out _ hv5
  have d0 := bF.cell 0 rfl
  have y0 := B0.cell 0 rfl
  have y2 := B0.cell 2 rfl
  go_wp2_with fail
  refine (KH.out _).mono ?_
  rintro e w6 ⟨rfl, rfl⟩
  go_wp2_with fail
  refine (KPW.out _).mono ?_
  rintro e w6 ⟨rfl, rfl⟩
  go_wp2_with fail
  refine (KF.out _).mono ?_
  rintro e w6 ⟨rfl, hB⟩
  have hv6 := hv5.trans (hB.mono hv5.size)
  have b0 := B0.kept hB
  have b1 := B1.kept hB
  have b2 := B2.kept hB
  have b3 := B3.kept hB
  have bf := bF.kept hB
  clear hB hv5 hv4 bF B0 B1 B2 B3 c0 c1 c2 j0 j1 q0 q1 d0 y0 y2 u0 hbl HQ
  have br := Blok.new w6 88 #[.int .i64 x0, .int .i64 x1, .int .i64 x2, .int .i64 x3, .int .i64 x4]
  have hv7 := hv6.alloc hv6.size (.cells #[.int .i64 x0, .int .i64 x1, .int .i64 x2, .int .i64 x3, .int .i64 x4] 88)
  have hG := bf.lt
  have b0 := b0.alloc (.cells #[.int .i64 x0, .int .i64 x1, .int .i64 x2, .int .i64 x3, .int .i64 x4] 88)
  have b1 := b1.alloc (.cells #[.int .i64 x0, .int .i64 x1, .int .i64 x2, .int .i64 x3, .int .i64 x4] 88)
  have b2 := b2.alloc (.cells #[.int .i64 x0, .int .i64 x1, .int .i64 x2, .int .i64 x3, .int .i64 x4] 88)
  have b3 := b3.alloc (.cells #[.int .i64 x0, .int .i64 x1, .int .i64 x2, .int .i64 x3, .int .i64 x4] 88)
  have bf := bf.alloc (.cells #[.int .i64 x0, .int .i64 x1, .int .i64 x2, .int .i64 x3, .int .i64 x4] 88)
  have c1 := b0.cell 1 rfl
  have c2 := b0.cell 2 rfl
  have k0 := br.cell 0 rfl
  have k1 := br.cell 1 rfl
  have k2 := br.cell 2 rfl
  have k3 := br.cell 3 rfl
  have hz1 : (w6.alloc (.cells #[.int .i64 x0, .int .i64 x1, .int .i64 x2, .int .i64 x3, .int .i64 x4] 88)).heap.size = w6.heap.size + 1 := World.size_alloc _ _
  have hv8 := hv7.alloc hv7.size (.cells #[.int .i64 s, .int .i64 who, .bool false, .int .i64 0] 53)
  have m1 := (b0.alloc (.cells #[.int .i64 s, .int .i64 who, .bool false, .int .i64 0] 53)).cell 1 rfl
  have m2 := (b0.alloc (.cells #[.int .i64 s, .int .i64 who, .bool false, .int .i64 0] 53)).cell 2 rfl
  have bn := (Blok.new (w6.alloc (.cells #[.int .i64 x0, .int .i64 x1, .int .i64 x2, .int .i64 x3, .int .i64 x4] 88)) 53 #[.int .i64 s, .int .i64 who, .bool false, .int .i64 0]).alloc (.cells #[.int .i64 (m : Int), .int .i64 d, .int .i64 ((s : Int) + 1)] 49)
  rw [hz1] at bn
  have hv8 := hv7.alloc hv7.size (.cells #[.int .i64 s, .int .i64 who, .bool false, .int .i64 0] 53)
  have hz2 : ((w6.alloc (.cells #[.int .i64 x0, .int .i64 x1, .int .i64 x2, .int .i64 x3, .int .i64 x4] 88)).alloc (.cells #[.int .i64 s, .int .i64 who, .bool false, .int .i64 0] 53)).heap.size = w6.heap.size + 1 + 1 := by rw [World.size_alloc, World.size_alloc]
  have bv := Blok.new ((w6.alloc (.cells #[.int .i64 x0, .int .i64 x1, .int .i64 x2, .int .i64 x3, .int .i64 x4] 88)).alloc (.cells #[.int .i64 s, .int .i64 who, .bool false, .int .i64 0] 53)) 49 #[.int .i64 (m : Int), .int .i64 d, .int .i64 ((s : Int) + 1)]
  rw [hz2] at bv
  have hv9 := hv8.alloc hv8.size (.cells #[.int .i64 (m : Int), .int .i64 d, .int .i64 ((s : Int) + 1)] 49)
  have hs6 := hv6.size
  go_wp2
  have b1 := (b1.alloc (.cells #[.int .i64 s, .int .i64 who, .bool false, .int .i64 0] 53)).alloc (.cells #[.int .i64 (m : Int), .int .i64 d, .int .i64 ((s : Int) + 1)] 49)
  have b2 := (b2.alloc (.cells #[.int .i64 s, .int .i64 who, .bool false, .int .i64 0] 53)).alloc (.cells #[.int .i64 (m : Int), .int .i64 d, .int .i64 ((s : Int) + 1)] 49)
  have b3 := (b3.alloc (.cells #[.int .i64 s, .int .i64 who, .bool false, .int .i64 0] 53)).alloc (.cells #[.int .i64 (m : Int), .int .i64 d, .int .i64 ((s : Int) + 1)] 49)
  have bf := (bf.alloc (.cells #[.int .i64 s, .int .i64 who, .bool false, .int .i64 0] 53)).alloc (.cells #[.int .i64 (m : Int), .int .i64 d, .int .i64 ((s : Int) + 1)] 49)
  generalize hW9 : ((w6.alloc (.cells #[.int .i64 x0, .int .i64 x1, .int .i64 x2, .int .i64 x3, .int .i64 x4] 88)).alloc (.cells #[.int .i64 s, .int .i64 who, .bool false, .int .i64 0] 53)).alloc (.cells #[.int .i64 (m : Int), .int .i64 d, .int .i64 ((s : Int) + 1)] 49) = W9 at *
  clear hW9
  generalize w6.heap.size = G at *
  have ne0 : ¬ (G + 1 = F) := by omega
  have ne1 : ¬ (G + 1 + 1 = F) := by omega
  have ne2 : ¬ (G + 1 + 1 = G + 1) := by omega
  have ne3 : ¬ (G + 1 = G + 1 + 1) := by omega
  have ne4 : ¬ (G + 1 + 1 = G) := by omega
  have ne5 : ¬ (G + 1 = G) := by omega
  have ne6 : ¬ (F = G + 1) := by omega
  have ne7 : ¬ (F = G + 1 + 1) := by omega
  have ne8 : ¬ (G = G + 1) := by omega
  have ne9 : ¬ (G = G + 1 + 1) := by omega
  have ne10 : ¬ (w.heap.size + 1 = F) := by omega
  have ne11 : ¬ (F = w.heap.size + 1) := by omega
  have ne12 : ¬ (w.heap.size + 1 = G + 1) := by omega
  have ne13 : ¬ (G + 1 = w.heap.size + 1) := by omega
  have ne14 : ¬ (w.heap.size + 1 = G + 1 + 1) := by omega
  have ne15 : ¬ (G + 1 + 1 = w.heap.size + 1) := by omega
  have ne16 : ¬ (w.heap.size + 1 + 1 = F) := by omega
  have ne17 : ¬ (F = w.heap.size + 1 + 1) := by omega
  have ne18 : ¬ (w.heap.size + 1 + 1 = G + 1) := by omega
  have ne19 : ¬ (G + 1 = w.heap.size + 1 + 1) := by omega
  have ne20 : ¬ (w.heap.size + 1 + 1 = G + 1 + 1) := by omega
  have ne21 : ¬ (G + 1 + 1 = w.heap.size + 1 + 1) := by omega
  have ne22 : ¬ (w.heap.size + 1 + 1 + 1 = F) := by omega
  have ne23 : ¬ (F = w.heap.size + 1 + 1 + 1) := by omega
  have ne24 : ¬ (w.heap.size + 1 + 1 + 1 = G + 1) := by omega
  have ne25 : ¬ (G + 1 = w.heap.size + 1 + 1 + 1) := by omega
  have ne26 : ¬ (w.heap.size + 1 + 1 + 1 = G + 1 + 1) := by omega
  have ne27 : ¬ (G + 1 + 1 = w.heap.size + 1 + 1 + 1) := by omega
  have a0 := bn.cell 0 rfl
  have a1 := bn.cell 1 rfl
  have a2 := bn.cell 2 rfl
  have a3 := bn.cell 3 rfl
  have o0 := bv.cell 0 rfl
  have o1 := bv.cell 1 rfl
  have o2 := bv.cell 2 rfl
  have v0 := bn.frozen 0
  have v1 := bn.frozen 1
  have v2 := bn.frozen 2
  have v3 := bn.frozen 3
  have s0 := bv.frozen 0
  have hvZ := hv9
  have e0 := b1.cell 0 rfl
  have e1 := b1.cell 1 rfl
  have e2 := b1.cell 2 rfl
  have g0 := b2.cell 0 rfl
  have g1 := b2.cell 1 rfl
  have g2 := b2.cell 2 rfl
  have g3 := b2.cell 3 rfl
  have i0 := b3.cell 0 rfl
  have i1 := b3.cell 1 rfl
  have j0 := bf.cell 0 rfl
  have j1 := bf.cell 1 rfl
  have q0 := b1.frozen 0
  have q1 := b1.frozen 1
  have q2 := b1.frozen 2
  have r0 := b2.frozen 0
  have r1 := b2.frozen 1
  have r2 := b2.frozen 2
  have r3 := b2.frozen 3
  have u0 := b3.frozen 0
  have u1 := b3.frozen 1
  go_wp2
  go_region
  all_goals
    go_wp2
    refine bodyPost_ret (v := .tuple #[.agg #[.int .i64 (m : Int), .int .i64 d, .int .i64 ((s : Int) + 1)], .agg #[.int .i64 s, .int .i64 who, .bool false, .int .i64 0], .agg #[.int .i64 0, .int .i64 (-1)]]) (by simp [results, Tryz.results35, go_sem, e0, e1, e2, g0, g1, g2, g3, i0, i1]) rfl ?_
    refine ⟨rfl, ?_⟩
    repeat (first | (with_reducible exact hvZ) | (with_reducible refine Below.drew ?_) | (with_reducible refine Below.setCell ?_ (by first | omega | (simp <;> omega)) _))

set_option maxRecDepth 100000 in
set_option maxHeartbeats 3200000 in
theorem stepOf_n6 (a : Option Addr) (n cap : Nat) (l : List Int) (m pb s : Nat) (d ec x0 x1 x2 x3 x4 who : Int) (t : List UInt8) (w : World) (hn : l.length = n) (hr : RowAt w a (encInts l)) (hc : n ≤ 4611686018427387904) (h : (planF l).1 = 0) (hV : viewE m d s = 0) (hs : s < 1000000) (hwho : whoV l s = who) (hm : m < 65536) (hpb : bitOf who = pb) (hH : hasB m who = false) (KRF : ∀ W : World, Calls Tryz.prog 63 #[.string ⟨t.toArray⟩] W fun e w' => e = .returned (.tuple #[.agg #[.int .i64 x0, .int .i64 x1, .int .i64 x2, .int .i64 x3, .int .i64 x4], .int .i64 ec]) ∧ Below W.heap.size W w') (h0 : (ec == 0) = true) (h1 : (x0 == who) = true) (h2 : (x1 == ((m : Int) + (pb : Int))) = true) (h3 : (x2 == d) = true) (h4 : (x3 == (s : Int)) = true) :
    Calls Tryz.prog 35 #[.slice a n cap, .agg #[.int .i64 m, .int .i64 d, .int .i64 s], .string ⟨t.toArray⟩] w fun e w' =>
      e = .returned (.tuple #[.agg #[.int .i64 ((m : Int) + (pb : Int)), .int .i64 d, .int .i64 ((s : Int) + 1)], .agg #[.int .i64 s, .int .i64 who, .bool true, .int .i64 x4], .agg #[.int .i64 0, .int .i64 (-1)]]) ∧ Below w.heap.size w w' := by
  have KP := Lib.hid (fun (W : World) (h : Below w.heap.size w W) => planFault_any a n cap l W hn (hr.below h) hc)
  have e0 : (((0 : Nat), (-1 : Int)).1 : Int) = 0 := rfl
  have e1 : (((0 : Nat), (-1 : Int)).2 : Int) = -1 := rfl
  rw [(planF_ok h).1, e0, e1] at KP
  clear e0 e1
  have KV := Lib.hid (fun W : World => viewError_any m d s W)
  have KB := Lib.hid (fun W : World => bare_any 0 W)
  have e2 : ((0 : Nat) : Int) = 0 := rfl
  rw [hV, e2] at KV
  have hnd : nodeB who = true := by rw [← hwho]; exact (planF_ok h).2.2.2 _ (whoV_mem l _ (planF_ok h).2.1)
  have KH := Lib.hid (fun W : World => refHas_any m who W)
  rw [hH] at KH
  have KPW := Lib.hid (fun W : World => power_who who W hnd)
  rw [hpb] at KPW
  have KF := Lib.hid KRF
  have hn0 : 0 < n := by have := (planF_ok h).2.1; omega
  have hnz : ((n : Int) == 0) = false := by simp; omega
  have HQ := Lib.hid (fun (W : World) (hb : Below w.heap.size w W) => who_cell s (hr.below hb) hn hn0)
  rw [hwho] at HQ
  have hm2 : 0 ≤ (s : Int) % n := Int.emod_nonneg _ (by omega)
  have hm3 : (s : Int) % n < n := Int.emod_lt_of_pos _ (by omega)
  have hn32 : n ≤ 32 := by have := (planF_ok h).2.2.1; omega
  have hs7 : ((s : Int) == 1000000) = false := by simp; omega
  have hpl : 1 ≤ pb ∧ pb ≤ 65536 := by rw [← hpb]; have := bitOf_lt hnd; have h3 := Nat.two_pow_pos (who.toNat - 1); unfold bitOf at *; omega
  have hb0 : Below w.heap.size w ((((w.alloc (.cells #[.int .i64 m, .int .i64 d, .int .i64 s] 49)).alloc (.cells #[.int .i64 0, .int .i64 0, .int .i64 0] 49)).alloc (.cells #[.int .i64 0, .int .i64 0, .bool false, .int .i64 0] 53)).alloc (.cells #[.int .i64 0, .int .i64 0] 42)) := ((((Below.refl _ _).alloc (Nat.le_refl _) _).alloc (by simp) _).alloc (by simp <;> omega) _).alloc (by simp <;> omega) _
  have b0 : Blok ((((w.alloc (.cells #[.int .i64 m, .int .i64 d, .int .i64 s] 49)).alloc (.cells #[.int .i64 0, .int .i64 0, .int .i64 0] 49)).alloc (.cells #[.int .i64 0, .int .i64 0, .bool false, .int .i64 0] 53)).alloc (.cells #[.int .i64 0, .int .i64 0] 42)) w.heap.size 49 #[.int .i64 m, .int .i64 d, .int .i64 s] := (((Blok.new w _ _).alloc _).alloc _).alloc _
  have b1 : Blok ((((w.alloc (.cells #[.int .i64 m, .int .i64 d, .int .i64 s] 49)).alloc (.cells #[.int .i64 0, .int .i64 0, .int .i64 0] 49)).alloc (.cells #[.int .i64 0, .int .i64 0, .bool false, .int .i64 0] 53)).alloc (.cells #[.int .i64 0, .int .i64 0] 42)) (w.heap.size + 1) 49 #[.int .i64 0, .int .i64 0, .int .i64 0] := by
    have := ((Blok.new (w.alloc (.cells #[.int .i64 m, .int .i64 d, .int .i64 s] 49)) 49 #[.int .i64 0, .int .i64 0, .int .i64 0]).alloc (.cells #[.int .i64 0, .int .i64 0, .bool false, .int .i64 0] 53)).alloc (.cells #[.int .i64 0, .int .i64 0] 42)
    rwa [World.size_alloc] at this
  have b2 : Blok ((((w.alloc (.cells #[.int .i64 m, .int .i64 d, .int .i64 s] 49)).alloc (.cells #[.int .i64 0, .int .i64 0, .int .i64 0] 49)).alloc (.cells #[.int .i64 0, .int .i64 0, .bool false, .int .i64 0] 53)).alloc (.cells #[.int .i64 0, .int .i64 0] 42)) (w.heap.size + 1 + 1) 53 #[.int .i64 0, .int .i64 0, .bool false, .int .i64 0] := by
    have := (Blok.new ((w.alloc (.cells #[.int .i64 m, .int .i64 d, .int .i64 s] 49)).alloc (.cells #[.int .i64 0, .int .i64 0, .int .i64 0] 49)) 53 #[.int .i64 0, .int .i64 0, .bool false, .int .i64 0]).alloc (.cells #[.int .i64 0, .int .i64 0] 42)
    rwa [World.size_alloc, World.size_alloc] at this
  have b3 : Blok ((((w.alloc (.cells #[.int .i64 m, .int .i64 d, .int .i64 s] 49)).alloc (.cells #[.int .i64 0, .int .i64 0, .int .i64 0] 49)).alloc (.cells #[.int .i64 0, .int .i64 0, .bool false, .int .i64 0] 53)).alloc (.cells #[.int .i64 0, .int .i64 0] 42)) (w.heap.size + 1 + 1 + 1) 42 #[.int .i64 0, .int .i64 0] := by
    have := Blok.new (((w.alloc (.cells #[.int .i64 m, .int .i64 d, .int .i64 s] 49)).alloc (.cells #[.int .i64 0, .int .i64 0, .int .i64 0] 49)).alloc (.cells #[.int .i64 0, .int .i64 0, .bool false, .int .i64 0] 53)) 42 #[.int .i64 0, .int .i64 0]
    rwa [World.size_alloc, World.size_alloc, World.size_alloc] at this
  clear hn hr h hV e2 hwho hpb hH hnd KRF
  go_enter Tryz.func35, Tryz.ntmps35
  go_wp2_with fail
  generalize hW0 : ((((w.alloc (.cells #[.int .i64 m, .int .i64 d, .int .i64 s] 49)).alloc (.cells #[.int .i64 0, .int .i64 0, .int .i64 0] 49)).alloc (.cells #[.int .i64 0, .int .i64 0, .bool false, .int .i64 0] 53)).alloc (.cells #[.int .i64 0, .int .i64 0] 42)) = W0 at *
  clear hW0
  refine (KP.out _ hb0).mono ?_
  rintro e w1 ⟨rfl, hB⟩
  have hv1 := hb0.trans (hB.mono hb0.size)
  have b0 := b0.kept hB
  have b1 := b1.kept hB
  have b2 := b2.kept hB
  have b3 := b3.kept hB
  have bf := Blok.new w1 42 #[.int .i64 0, .int .i64 (-1)]
  have hv2 := hv1.alloc hv1.size (.cells #[.int .i64 0, .int .i64 (-1)] 42)
  have hF := hv1.size
  have hE := b3.lt
  have b0 := b0.alloc (.cells #[.int .i64 0, .int .i64 (-1)] 42)
  have b1 := b1.alloc (.cells #[.int .i64 0, .int .i64 (-1)] 42)
  have b2 := b2.alloc (.cells #[.int .i64 0, .int .i64 (-1)] 42)
  have b3 := b3.alloc (.cells #[.int .i64 0, .int .i64 (-1)] 42)
  clear hB hb0
  have c0 := b0.cell 0 rfl
  have c1 := b0.cell 1 rfl
  have c2 := b0.cell 2 rfl
  have j0 := bf.cell 0 rfl
  have j1 := bf.cell 1 rfl
  have q0 := bf.frozen 0
  have q1 := bf.frozen 1
  go_wp2_with fail
  generalize hW2 : w1.alloc (.cells #[.int .i64 0, .int .i64 (-1)] 42) = w2 at *
  generalize w1.heap.size = F at *
  clear hW2
  have nf0 : ¬ (w.heap.size + 1 = F) := by omega
  have ng0 : ¬ (F = w.heap.size + 1) := by omega
  have nf1 : ¬ (w.heap.size + 1 + 1 = F) := by omega
  have ng1 : ¬ (F = w.heap.size + 1 + 1) := by omega
  have nf2 : ¬ (w.heap.size + 1 + 1 + 1 = F) := by omega
  have ng2 : ¬ (F = w.heap.size + 1 + 1 + 1) := by omega
  refine (KV.out _).mono ?_
  rintro e w3 ⟨rfl, hB⟩
  have hv3 := hv2.trans (hB.mono hv2.size)
  have b0 := b0.kept hB
  have b1 := b1.kept hB
  have b2 := b2.kept hB
  have b3 := b3.kept hB
  have bf := bf.kept hB
  clear hB hv2
  go_wp2_with fail
  refine (KB.out _).mono ?_
  rintro e w4 ⟨rfl, hB⟩
  have hv4 := hv3.trans (hB.mono hv3.size)
  have b0 := b0.kept hB
  have b1 := b1.kept hB
  have b2 := b2.kept hB
  have b3 := b3.kept hB
  have bf := bf.kept hB
  clear hB hv3 c0 c1 c2 j0 j1 q0 q1
  have c0 := b0.cell 0 rfl
  have c1 := b0.cell 1 rfl
  have c2 := b0.cell 2 rfl
  have j0 := bf.cell 0 rfl
  have j1 := bf.cell 1 rfl
  have q0 := bf.frozen 0
  have q1 := bf.frozen 1
  have hv5 := (hv4.setCell (show w.heap.size ≤ (⟨F, 0, none⟩ : Addr).block from hF) (.int .i64 0)).setCell (show w.heap.size ≤ (⟨F, 1, none⟩ : Addr).block from hF) (.int .i64 (-1))
  have bF := bf.two (.int .i64 0) (.int .i64 (-1))
  have B0 := (b0.setOther 0 (.int .i64 0) (show w.heap.size ≠ F by omega)).setOther 1 (.int .i64 (-1)) (show w.heap.size ≠ F by omega)
  have B1 := (b1.setOther 0 (.int .i64 0) (show w.heap.size + 1 ≠ F by omega)).setOther 1 (.int .i64 (-1)) (show w.heap.size + 1 ≠ F by omega)
  have B2 := (b2.setOther 0 (.int .i64 0) (show w.heap.size + 1 + 1 ≠ F by omega)).setOther 1 (.int .i64 (-1)) (show w.heap.size + 1 + 1 ≠ F by omega)
  have B3 := (b3.setOther 0 (.int .i64 0) (show w.heap.size + 1 + 1 + 1 ≠ F by omega)).setOther 1 (.int .i64 (-1)) (show w.heap.size + 1 + 1 + 1 ≠ F by omega)
  obtain ⟨b, off, rfl, hbl, u0⟩ := HQ.out _ hv5
  have d0 := bF.cell 0 rfl
  have y0 := B0.cell 0 rfl
  have y2 := B0.cell 2 rfl
  go_wp2_with fail
  refine (KH.out _).mono ?_
  rintro e w6 ⟨rfl, rfl⟩
  go_wp2_with fail
  refine (KPW.out _).mono ?_
  rintro e w6 ⟨rfl, rfl⟩
  go_wp2_with fail
  refine (KF.out _).mono ?_
  rintro e w6 ⟨rfl, hB⟩
  have hv6 := hv5.trans (hB.mono hv5.size)
  have b0 := B0.kept hB
  have b1 := B1.kept hB
  have b2 := B2.kept hB
  have b3 := B3.kept hB
  have bf := bF.kept hB
  clear hB hv5 hv4 bF B0 B1 B2 B3 c0 c1 c2 j0 j1 q0 q1 d0 y0 y2 u0 hbl HQ
  have br := Blok.new w6 88 #[.int .i64 x0, .int .i64 x1, .int .i64 x2, .int .i64 x3, .int .i64 x4]
  have hv7 := hv6.alloc hv6.size (.cells #[.int .i64 x0, .int .i64 x1, .int .i64 x2, .int .i64 x3, .int .i64 x4] 88)
  have hG := bf.lt
  have b0 := b0.alloc (.cells #[.int .i64 x0, .int .i64 x1, .int .i64 x2, .int .i64 x3, .int .i64 x4] 88)
  have b1 := b1.alloc (.cells #[.int .i64 x0, .int .i64 x1, .int .i64 x2, .int .i64 x3, .int .i64 x4] 88)
  have b2 := b2.alloc (.cells #[.int .i64 x0, .int .i64 x1, .int .i64 x2, .int .i64 x3, .int .i64 x4] 88)
  have b3 := b3.alloc (.cells #[.int .i64 x0, .int .i64 x1, .int .i64 x2, .int .i64 x3, .int .i64 x4] 88)
  have bf := bf.alloc (.cells #[.int .i64 x0, .int .i64 x1, .int .i64 x2, .int .i64 x3, .int .i64 x4] 88)
  have c1 := b0.cell 1 rfl
  have c2 := b0.cell 2 rfl
  have k0 := br.cell 0 rfl
  have k1 := br.cell 1 rfl
  have k2 := br.cell 2 rfl
  have k3 := br.cell 3 rfl
  have hz1 : (w6.alloc (.cells #[.int .i64 x0, .int .i64 x1, .int .i64 x2, .int .i64 x3, .int .i64 x4] 88)).heap.size = w6.heap.size + 1 := World.size_alloc _ _
  have hv8 := hv7.alloc hv7.size (.cells #[.int .i64 s, .int .i64 who, .bool false, .int .i64 0] 53)
  have m1 := (b0.alloc (.cells #[.int .i64 s, .int .i64 who, .bool false, .int .i64 0] 53)).cell 1 rfl
  have m2 := (b0.alloc (.cells #[.int .i64 s, .int .i64 who, .bool false, .int .i64 0] 53)).cell 2 rfl
  have bn := (Blok.new (w6.alloc (.cells #[.int .i64 x0, .int .i64 x1, .int .i64 x2, .int .i64 x3, .int .i64 x4] 88)) 53 #[.int .i64 s, .int .i64 who, .bool true, .int .i64 x4]).alloc (.cells #[.int .i64 ((m : Int) + (pb : Int)), .int .i64 d, .int .i64 ((s : Int) + 1)] 49)
  rw [hz1] at bn
  have hv8 := hv7.alloc hv7.size (.cells #[.int .i64 s, .int .i64 who, .bool true, .int .i64 x4] 53)
  have hz2 : ((w6.alloc (.cells #[.int .i64 x0, .int .i64 x1, .int .i64 x2, .int .i64 x3, .int .i64 x4] 88)).alloc (.cells #[.int .i64 s, .int .i64 who, .bool true, .int .i64 x4] 53)).heap.size = w6.heap.size + 1 + 1 := by rw [World.size_alloc, World.size_alloc]
  have bv := Blok.new ((w6.alloc (.cells #[.int .i64 x0, .int .i64 x1, .int .i64 x2, .int .i64 x3, .int .i64 x4] 88)).alloc (.cells #[.int .i64 s, .int .i64 who, .bool true, .int .i64 x4] 53)) 49 #[.int .i64 ((m : Int) + (pb : Int)), .int .i64 d, .int .i64 ((s : Int) + 1)]
  rw [hz2] at bv
  have hv9 := hv8.alloc hv8.size (.cells #[.int .i64 ((m : Int) + (pb : Int)), .int .i64 d, .int .i64 ((s : Int) + 1)] 49)
  have hs6 := hv6.size
  go_wp2
  have b1 := (b1.alloc (.cells #[.int .i64 s, .int .i64 who, .bool true, .int .i64 x4] 53)).alloc (.cells #[.int .i64 ((m : Int) + (pb : Int)), .int .i64 d, .int .i64 ((s : Int) + 1)] 49)
  have b2 := (b2.alloc (.cells #[.int .i64 s, .int .i64 who, .bool true, .int .i64 x4] 53)).alloc (.cells #[.int .i64 ((m : Int) + (pb : Int)), .int .i64 d, .int .i64 ((s : Int) + 1)] 49)
  have b3 := (b3.alloc (.cells #[.int .i64 s, .int .i64 who, .bool true, .int .i64 x4] 53)).alloc (.cells #[.int .i64 ((m : Int) + (pb : Int)), .int .i64 d, .int .i64 ((s : Int) + 1)] 49)
  have bf := (bf.alloc (.cells #[.int .i64 s, .int .i64 who, .bool true, .int .i64 x4] 53)).alloc (.cells #[.int .i64 ((m : Int) + (pb : Int)), .int .i64 d, .int .i64 ((s : Int) + 1)] 49)
  generalize hW9 : ((w6.alloc (.cells #[.int .i64 x0, .int .i64 x1, .int .i64 x2, .int .i64 x3, .int .i64 x4] 88)).alloc (.cells #[.int .i64 s, .int .i64 who, .bool true, .int .i64 x4] 53)).alloc (.cells #[.int .i64 ((m : Int) + (pb : Int)), .int .i64 d, .int .i64 ((s : Int) + 1)] 49) = W9 at *
  clear hW9
  generalize w6.heap.size = G at *
  have ne0 : ¬ (G + 1 = F) := by omega
  have ne1 : ¬ (G + 1 + 1 = F) := by omega
  have ne2 : ¬ (G + 1 + 1 = G + 1) := by omega
  have ne3 : ¬ (G + 1 = G + 1 + 1) := by omega
  have ne4 : ¬ (G + 1 + 1 = G) := by omega
  have ne5 : ¬ (G + 1 = G) := by omega
  have ne6 : ¬ (F = G + 1) := by omega
  have ne7 : ¬ (F = G + 1 + 1) := by omega
  have ne8 : ¬ (G = G + 1) := by omega
  have ne9 : ¬ (G = G + 1 + 1) := by omega
  have ne10 : ¬ (w.heap.size + 1 = F) := by omega
  have ne11 : ¬ (F = w.heap.size + 1) := by omega
  have ne12 : ¬ (w.heap.size + 1 = G + 1) := by omega
  have ne13 : ¬ (G + 1 = w.heap.size + 1) := by omega
  have ne14 : ¬ (w.heap.size + 1 = G + 1 + 1) := by omega
  have ne15 : ¬ (G + 1 + 1 = w.heap.size + 1) := by omega
  have ne16 : ¬ (w.heap.size + 1 + 1 = F) := by omega
  have ne17 : ¬ (F = w.heap.size + 1 + 1) := by omega
  have ne18 : ¬ (w.heap.size + 1 + 1 = G + 1) := by omega
  have ne19 : ¬ (G + 1 = w.heap.size + 1 + 1) := by omega
  have ne20 : ¬ (w.heap.size + 1 + 1 = G + 1 + 1) := by omega
  have ne21 : ¬ (G + 1 + 1 = w.heap.size + 1 + 1) := by omega
  have ne22 : ¬ (w.heap.size + 1 + 1 + 1 = F) := by omega
  have ne23 : ¬ (F = w.heap.size + 1 + 1 + 1) := by omega
  have ne24 : ¬ (w.heap.size + 1 + 1 + 1 = G + 1) := by omega
  have ne25 : ¬ (G + 1 = w.heap.size + 1 + 1 + 1) := by omega
  have ne26 : ¬ (w.heap.size + 1 + 1 + 1 = G + 1 + 1) := by omega
  have ne27 : ¬ (G + 1 + 1 = w.heap.size + 1 + 1 + 1) := by omega
  have a0 := bn.cell 0 rfl
  have a1 := bn.cell 1 rfl
  have a2 := bn.cell 2 rfl
  have a3 := bn.cell 3 rfl
  have o0 := bv.cell 0 rfl
  have o1 := bv.cell 1 rfl
  have o2 := bv.cell 2 rfl
  have v0 := bn.frozen 0
  have v1 := bn.frozen 1
  have v2 := bn.frozen 2
  have v3 := bn.frozen 3
  have s0 := bv.frozen 0
  have hvZ := hv9
  have e0 := b1.cell 0 rfl
  have e1 := b1.cell 1 rfl
  have e2 := b1.cell 2 rfl
  have g0 := b2.cell 0 rfl
  have g1 := b2.cell 1 rfl
  have g2 := b2.cell 2 rfl
  have g3 := b2.cell 3 rfl
  have i0 := b3.cell 0 rfl
  have i1 := b3.cell 1 rfl
  have j0 := bf.cell 0 rfl
  have j1 := bf.cell 1 rfl
  have q0 := b1.frozen 0
  have q1 := b1.frozen 1
  have q2 := b1.frozen 2
  have r0 := b2.frozen 0
  have r1 := b2.frozen 1
  have r2 := b2.frozen 2
  have r3 := b2.frozen 3
  have u0 := b3.frozen 0
  have u1 := b3.frozen 1
  go_wp2
  go_region
  all_goals
    go_wp2
    refine bodyPost_ret (v := .tuple #[.agg #[.int .i64 ((m : Int) + (pb : Int)), .int .i64 d, .int .i64 ((s : Int) + 1)], .agg #[.int .i64 s, .int .i64 who, .bool true, .int .i64 x4], .agg #[.int .i64 0, .int .i64 (-1)]]) (by simp [results, Tryz.results35, go_sem, e0, e1, e2, g0, g1, g2, g3, i0, i1]) rfl ?_
    refine ⟨rfl, ?_⟩
    repeat (first | (with_reducible exact hvZ) | (with_reducible refine Below.drew ?_) | (with_reducible refine Below.setCell ?_ (by first | omega | (simp <;> omega)) _))

end Go.Proofs.YtgghnncgeogemaaGreatDoor
