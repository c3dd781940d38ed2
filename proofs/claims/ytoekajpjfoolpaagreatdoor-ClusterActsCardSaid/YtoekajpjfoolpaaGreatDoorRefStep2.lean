/- the reference's StepOf: its walks. (Printed by a program of mine.) -/
import Derived.Test.YtoekajpjfoolpaaGreatDoorRefStep
import Derived.Deep.CutBlock
import Derived.Deep.DeepCutAuto
namespace Go.Proofs.YtoekajpjfoolpaaGreatDoor
open Go.RowKit

set_option maxRecDepth 100000 in
set_option maxHeartbeats 3200000 in
theorem stepOf_bad (a : Option Addr) (n cap : Nat) (l : List Int) (m d s : Int) (t : List UInt8) (w : World) (hn : l.length = n) (hr : RowAt w a (encInts l)) (hc : n ≤ 4611686018427387904) (h : (planF l).1 ≠ 0) :
    Calls Tryz.prog 120 #[.slice a n cap, .agg #[.int .i64 m, .int .i64 d, .int .i64 s], .string ⟨t.toArray⟩] w fun e w' =>
      e = .returned (.tuple #[.agg #[.int .i64 0, .int .i64 0, .int .i64 0], .agg #[.int .i64 0, .int .i64 0, .bool false, .int .i64 0], .agg #[.int .i64 (planF l).1, .int .i64 (planF l).2]]) ∧ Below w.heap.size w w' := by
  have KP := Lib.hid (fun (W : World) (h : Below w.heap.size w W) => planFault_any a n cap l W hn (hr.below h) hc)
  have h1 : (0 : Int) < ((planF l).1 : Int) := by omega
  have h2 : (((planF l).1 : Int) == 0) = false := by simp; omega
  generalize ((planF l).1 : Int) = c at *
  generalize (planF l).2 = p at *
  have hb0 : Below w.heap.size w ((((w.alloc (.cells #[.int .i64 m, .int .i64 d, .int .i64 s] 84)).alloc (.cells #[.int .i64 0, .int .i64 0, .int .i64 0] 84)).alloc (.cells #[.int .i64 0, .int .i64 0, .bool false, .int .i64 0] 91)).alloc (.cells #[.int .i64 0, .int .i64 0] 33)) := ((((Below.refl _ _).alloc (Nat.le_refl _) _).alloc (by simp) _).alloc (by simp <;> omega) _).alloc (by simp <;> omega) _
  have b0 : Blok ((((w.alloc (.cells #[.int .i64 m, .int .i64 d, .int .i64 s] 84)).alloc (.cells #[.int .i64 0, .int .i64 0, .int .i64 0] 84)).alloc (.cells #[.int .i64 0, .int .i64 0, .bool false, .int .i64 0] 91)).alloc (.cells #[.int .i64 0, .int .i64 0] 33)) w.heap.size 84 #[.int .i64 m, .int .i64 d, .int .i64 s] := (((Blok.new w _ _).alloc _).alloc _).alloc _
  have b1 : Blok ((((w.alloc (.cells #[.int .i64 m, .int .i64 d, .int .i64 s] 84)).alloc (.cells #[.int .i64 0, .int .i64 0, .int .i64 0] 84)).alloc (.cells #[.int .i64 0, .int .i64 0, .bool false, .int .i64 0] 91)).alloc (.cells #[.int .i64 0, .int .i64 0] 33)) (w.heap.size + 1) 84 #[.int .i64 0, .int .i64 0, .int .i64 0] := by
    have := ((Blok.new (w.alloc (.cells #[.int .i64 m, .int .i64 d, .int .i64 s] 84)) 84 #[.int .i64 0, .int .i64 0, .int .i64 0]).alloc (.cells #[.int .i64 0, .int .i64 0, .bool false, .int .i64 0] 91)).alloc (.cells #[.int .i64 0, .int .i64 0] 33)
    rwa [World.size_alloc] at this
  have b2 : Blok ((((w.alloc (.cells #[.int .i64 m, .int .i64 d, .int .i64 s] 84)).alloc (.cells #[.int .i64 0, .int .i64 0, .int .i64 0] 84)).alloc (.cells #[.int .i64 0, .int .i64 0, .bool false, .int .i64 0] 91)).alloc (.cells #[.int .i64 0, .int .i64 0] 33)) (w.heap.size + 1 + 1) 91 #[.int .i64 0, .int .i64 0, .bool false, .int .i64 0] := by
    have := (Blok.new ((w.alloc (.cells #[.int .i64 m, .int .i64 d, .int .i64 s] 84)).alloc (.cells #[.int .i64 0, .int .i64 0, .int .i64 0] 84)) 91 #[.int .i64 0, .int .i64 0, .bool false, .int .i64 0]).alloc (.cells #[.int .i64 0, .int .i64 0] 33)
    rwa [World.size_alloc, World.size_alloc] at this
  have b3 : Blok ((((w.alloc (.cells #[.int .i64 m, .int .i64 d, .int .i64 s] 84)).alloc (.cells #[.int .i64 0, .int .i64 0, .int .i64 0] 84)).alloc (.cells #[.int .i64 0, .int .i64 0, .bool false, .int .i64 0] 91)).alloc (.cells #[.int .i64 0, .int .i64 0] 33)) (w.heap.size + 1 + 1 + 1) 33 #[.int .i64 0, .int .i64 0] := by
    have := Blok.new (((w.alloc (.cells #[.int .i64 m, .int .i64 d, .int .i64 s] 84)).alloc (.cells #[.int .i64 0, .int .i64 0, .int .i64 0] 84)).alloc (.cells #[.int .i64 0, .int .i64 0, .bool false, .int .i64 0] 91)) 33 #[.int .i64 0, .int .i64 0]
    rwa [World.size_alloc, World.size_alloc, World.size_alloc] at this
  clear hn hr h
  go_enter Tryz.func120, Tryz.ntmps120
  go_wp2_with fail
  generalize hW0 : ((((w.alloc (.cells #[.int .i64 m, .int .i64 d, .int .i64 s] 84)).alloc (.cells #[.int .i64 0, .int .i64 0, .int .i64 0] 84)).alloc (.cells #[.int .i64 0, .int .i64 0, .bool false, .int .i64 0] 91)).alloc (.cells #[.int .i64 0, .int .i64 0] 33)) = W0 at *
  clear hW0
  refine (KP.out _ hb0).mono ?_
  rintro e w1 ⟨rfl, hB⟩
  have hv1 := hb0.trans (hB.mono hb0.size)
  have b0 := b0.kept hB
  have b1 := b1.kept hB
  have b2 := b2.kept hB
  have b3 := b3.kept hB
  have bf := Blok.new w1 33 #[.int .i64 c, .int .i64 p]
  have hv2 := hv1.alloc hv1.size (.cells #[.int .i64 c, .int .i64 p] 33)
  have hF := hv1.size
  have hE := b3.lt
  have b0 := b0.alloc (.cells #[.int .i64 c, .int .i64 p] 33)
  have b1 := b1.alloc (.cells #[.int .i64 c, .int .i64 p] 33)
  have b2 := b2.alloc (.cells #[.int .i64 c, .int .i64 p] 33)
  have b3 := b3.alloc (.cells #[.int .i64 c, .int .i64 p] 33)
  clear hB hb0
  have hvZ := hv2
  have e0 := b1.cell 0 rfl
  have e1 := b1.cell 1 rfl
  have e2 := b1.cell 2 rfl
  have g0 := b2.cell 0 rfl
  have g1 := b2.cell 1 rfl
  have g2 := b2.cell 2 rfl
  have g3 := b2.cell 3 rfl
  have i0 := b3.cell 0 rfl
  have i1 := b3.cell 1 rfl
  have j0 := bf.cell 0 rfl
  have j1 := bf.cell 1 rfl
  have q0 := b1.frozen 0
  have q1 := b1.frozen 1
  have q2 := b1.frozen 2
  have r0 := b2.frozen 0
  have r1 := b2.frozen 1
  have r2 := b2.frozen 2
  have r3 := b2.frozen 3
  have u0 := b3.frozen 0
  have u1 := b3.frozen 1
  go_wp2
  generalize hW2 : w1.alloc (.cells #[.int .i64 c, .int .i64 p] 33) = w2 at *
  generalize w1.heap.size = F at *
  clear hW2
  have nf0 : ¬ (w.heap.size + 1 = F) := by omega
  have ng0 : ¬ (F = w.heap.size + 1) := by omega
  have nf1 : ¬ (w.heap.size + 1 + 1 = F) := by omega
  have ng1 : ¬ (F = w.heap.size + 1 + 1) := by omega
  have nf2 : ¬ (w.heap.size + 1 + 1 + 1 = F) := by omega
  have ng2 : ¬ (F = w.heap.size + 1 + 1 + 1) := by omega
  go_region
  all_goals
    go_wp2
    refine bodyPost_ret (v := .tuple #[.agg #[.int .i64 0, .int .i64 0, .int .i64 0], .agg #[.int .i64 0, .int .i64 0, .bool false, .int .i64 0], .agg #[.int .i64 c, .int .i64 p]]) (by simp [results, Tryz.results120, go_sem, e0, e1, e2, g0, g1, g2, g3, i0, i1]) rfl ?_
    refine ⟨rfl, ?_⟩
    repeat (first | (with_reducible exact hvZ) | (with_reducible refine Below.drew ?_) | (with_reducible refine Below.setCell ?_ (by first | omega | (simp <;> omega)) _))

set_option maxRecDepth 100000 in
set_option maxHeartbeats 3200000 in
theorem stepOf_view (a : Option Addr) (n cap : Nat) (l : List Int) (m d s : Int) (t : List UInt8) (w : World) (hn : l.length = n) (hr : RowAt w a (encInts l)) (hc : n ≤ 4611686018427387904) (h : (planF l).1 = 0) (hV : viewE m d s = 2) :
    Calls Tryz.prog 120 #[.slice a n cap, .agg #[.int .i64 m, .int .i64 d, .int .i64 s], .string ⟨t.toArray⟩] w fun e w' =>
      e = .returned (.tuple #[.agg #[.int .i64 0, .int .i64 0, .int .i64 0], .agg #[.int .i64 0, .int .i64 0, .bool false, .int .i64 0], .agg #[.int .i64 2, .int .i64 (-1)]]) ∧ Below w.heap.size w w' := by
  have KP := Lib.hid (fun (W : World) (h : Below w.heap.size w W) => planFault_any a n cap l W hn (hr.below h) hc)
  have e0 : (((0 : Nat), (-1 : Int)).1 : Int) = 0 := rfl
  have e1 : (((0 : Nat), (-1 : Int)).2 : Int) = -1 := rfl
  rw [(planF_ok h).1, e0, e1] at KP
  clear e0 e1
  have KV := Lib.hid (fun W : World => viewError_any m d s W)
  have KB := Lib.hid (fun W : World => bare_any 2 W)
  have e2 : ((2 : Nat) : Int) = 2 := rfl
  rw [hV, e2] at KV
  have hb0 : Below w.heap.size w ((((w.alloc (.cells #[.int .i64 m, .int .i64 d, .int .i64 s] 84)).alloc (.cells #[.int .i64 0, .int .i64 0, .int .i64 0] 84)).alloc (.cells #[.int .i64 0, .int .i64 0, .bool false, .int .i64 0] 91)).alloc (.cells #[.int .i64 0, .int .i64 0] 33)) := ((((Below.refl _ _).alloc (Nat.le_refl _) _).alloc (by simp) _).alloc (by simp <;> omega) _).alloc (by simp <;> omega) _
  have b0 : Blok ((((w.alloc (.cells #[.int .i64 m, .int .i64 d, .int .i64 s] 84)).alloc (.cells #[.int .i64 0, .int .i64 0, .int .i64 0] 84)).alloc (.cells #[.int .i64 0, .int .i64 0, .bool false, .int .i64 0] 91)).alloc (.cells #[.int .i64 0, .int .i64 0] 33)) w.heap.size 84 #[.int .i64 m, .int .i64 d, .int .i64 s] := (((Blok.new w _ _).alloc _).alloc _).alloc _
  have b1 : Blok ((((w.alloc (.cells #[.int .i64 m, .int .i64 d, .int .i64 s] 84)).alloc (.cells #[.int .i64 0, .int .i64 0, .int .i64 0] 84)).alloc (.cells #[.int .i64 0, .int .i64 0, .bool false, .int .i64 0] 91)).alloc (.cells #[.int .i64 0, .int .i64 0] 33)) (w.heap.size + 1) 84 #[.int .i64 0, .int .i64 0, .int .i64 0] := by
    have := ((Blok.new (w.alloc (.cells #[.int .i64 m, .int .i64 d, .int .i64 s] 84)) 84 #[.int .i64 0, .int .i64 0, .int .i64 0]).alloc (.cells #[.int .i64 0, .int .i64 0, .bool false, .int .i64 0] 91)).alloc (.cells #[.int .i64 0, .int .i64 0] 33)
    rwa [World.size_alloc] at this
  have b2 : Blok ((((w.alloc (.cells #[.int .i64 m, .int .i64 d, .int .i64 s] 84)).alloc (.cells #[.int .i64 0, .int .i64 0, .int .i64 0] 84)).alloc (.cells #[.int .i64 0, .int .i64 0, .bool false, .int .i64 0] 91)).alloc (.cells #[.int .i64 0, .int .i64 0] 33)) (w.heap.size + 1 + 1) 91 #[.int .i64 0, .int .i64 0, .bool false, .int .i64 0] := by
    have := (Blok.new ((w.alloc (.cells #[.int .i64 m, .int .i64 d, .int .i64 s] 84)).alloc (.cells #[.int .i64 0, .int .i64 0, .int .i64 0] 84)) 91 #[.int .i64 0, .int .i64 0, .bool false, .int .i64 0]).alloc (.cells #[.int .i64 0, .int .i64 0] 33)
    rwa [World.size_alloc, World.size_alloc] at this
  have b3 : Blok ((((w.alloc (.cells #[.int .i64 m, .int .i64 d, .int .i64 s] 84)).alloc (.cells #[.int .i64 0, .int .i64 0, .int .i64 0] 84)).alloc (.cells #[.int .i64 0, .int .i64 0, .bool false, .int .i64 0] 91)).alloc (.cells #[.int .i64 0, .int .i64 0] 33)) (w.heap.size + 1 + 1 + 1) 33 #[.int .i64 0, .int .i64 0] := by
    have := Blok.new (((w.alloc (.cells #[.int .i64 m, .int .i64 d, .int .i64 s] 84)).alloc (.cells #[.int .i64 0, .int .i64 0, .int .i64 0] 84)).alloc (.cells #[.int .i64 0, .int .i64 0, .bool false, .int .i64 0] 91)) 33 #[.int .i64 0, .int .i64 0]
    rwa [World.size_alloc, World.size_alloc, World.size_alloc] at this
  clear hn hr h hV e2
  go_enter Tryz.func120, Tryz.ntmps120
  go_wp2_with fail
  generalize hW0 : ((((w.alloc (.cells #[.int .i64 m, .int .i64 d, .int .i64 s] 84)).alloc (.cells #[.int .i64 0, .int .i64 0, .int .i64 0] 84)).alloc (.cells #[.int .i64 0, .int .i64 0, .bool false, .int .i64 0] 91)).alloc (.cells #[.int .i64 0, .int .i64 0] 33)) = W0 at *
  clear hW0
  refine (KP.out _ hb0).mono ?_
  rintro e w1 ⟨rfl, hB⟩
  have hv1 := hb0.trans (hB.mono hb0.size)
  have b0 := b0.kept hB
  have b1 := b1.kept hB
  have b2 := b2.kept hB
  have b3 := b3.kept hB
  have bf := Blok.new w1 33 #[.int .i64 0, .int .i64 (-1)]
  have hv2 := hv1.alloc hv1.size (.cells #[.int .i64 0, .int .i64 (-1)] 33)
  have hF := hv1.size
  have hE := b3.lt
  have b0 := b0.alloc (.cells #[.int .i64 0, .int .i64 (-1)] 33)
  have b1 := b1.alloc (.cells #[.int .i64 0, .int .i64 (-1)] 33)
  have b2 := b2.alloc (.cells #[.int .i64 0, .int .i64 (-1)] 33)
  have b3 := b3.alloc (.cells #[.int .i64 0, .int .i64 (-1)] 33)
  clear hB hb0
  have c0 := b0.cell 0 rfl
  have c1 := b0.cell 1 rfl
  have c2 := b0.cell 2 rfl
  have j0 := bf.cell 0 rfl
  have j1 := bf.cell 1 rfl
  have q0 := bf.frozen 0
  have q1 := bf.frozen 1
  go_wp2_with fail
  generalize hW2 : w1.alloc (.cells #[.int .i64 0, .int .i64 (-1)] 33) = w2 at *
  generalize w1.heap.size = F at *
  clear hW2
  have nf0 : ¬ (w.heap.size + 1 = F) := by omega
  have ng0 : ¬ (F = w.heap.size + 1) := by omega
  have nf1 : ¬ (w.heap.size + 1 + 1 = F) := by omega
  have ng1 : ¬ (F = w.heap.size + 1 + 1) := by omega
  have nf2 : ¬ (w.heap.size + 1 + 1 + 1 = F) := by omega
  have ng2 : ¬ (F = w.heap.size + 1 + 1 + 1) := by omega
  refine (KV.out _).mono ?_
  rintro e w3 ⟨rfl, hB⟩
  have hv3 := hv2.trans (hB.mono hv2.size)
  have b0 := b0.kept hB
  have b1 := b1.kept hB
  have b2 := b2.kept hB
  have b3 := b3.kept hB
  have bf := bf.kept hB
  clear hB hv2
  go_wp2_with fail
  refine (KB.out _).mono ?_
  rintro e w4 ⟨rfl, hB⟩
  have hv4 := hv3.trans (hB.mono hv3.size)
  have b0 := b0.kept hB
  have b1 := b1.kept hB
  have b2 := b2.kept hB
  have b3 := b3.kept hB
  have bf := bf.kept hB
  clear hB hv3 c0 c1 c2 j0 j1 q0 q1
  have c0 := b0.cell 0 rfl
  have c1 := b0.cell 1 rfl
  have c2 := b0.cell 2 rfl
  have j0 := bf.cell 0 rfl
  have j1 := bf.cell 1 rfl
  have q0 := bf.frozen 0
  have q1 := bf.frozen 1
  have hv5 := (hv4.setCell (show w.heap.size ≤ (⟨F, 0, none⟩ : Addr).block from hF) (.int .i64 2)).setCell (show w.heap.size ≤ (⟨F, 1, none⟩ : Addr).block from hF) (.int .i64 (-1))
  have bF := bf.two (.int .i64 2) (.int .i64 (-1))
  have B0 := (b0.setOther 0 (.int .i64 2) (show w.heap.size ≠ F by omega)).setOther 1 (.int .i64 (-1)) (show w.heap.size ≠ F by omega)
  have B1 := (b1.setOther 0 (.int .i64 2) (show w.heap.size + 1 ≠ F by omega)).setOther 1 (.int .i64 (-1)) (show w.heap.size + 1 ≠ F by omega)
  have B2 := (b2.setOther 0 (.int .i64 2) (show w.heap.size + 1 + 1 ≠ F by omega)).setOther 1 (.int .i64 (-1)) (show w.heap.size + 1 + 1 ≠ F by omega)
  have B3 := (b3.setOther 0 (.int .i64 2) (show w.heap.size + 1 + 1 + 1 ≠ F by omega)).setOther 1 (.int .i64 (-1)) (show w.heap.size + 1 + 1 + 1 ≠ F by omega)
  have hb2 : ((2 : Int) == 0) = false := rfl
  have d0 := bF.cell 0 rfl
  have d1 := bF.cell 1 rfl
  have b1 := B1
  have b2 := B2
  have b3 := B3
  have hvZ := hv5
  have bf' := bf
  have bf := bF
  have e0 := b1.cell 0 rfl
  have e1 := b1.cell 1 rfl
  have e2 := b1.cell 2 rfl
  have g0 := b2.cell 0 rfl
  have g1 := b2.cell 1 rfl
  have g2 := b2.cell 2 rfl
  have g3 := b2.cell 3 rfl
  have i0 := b3.cell 0 rfl
  have i1 := b3.cell 1 rfl
  have j0 := bf.cell 0 rfl
  have j1 := bf.cell 1 rfl
  have q0 := b1.frozen 0
  have q1 := b1.frozen 1
  have q2 := b1.frozen 2
  have r0 := b2.frozen 0
  have r1 := b2.frozen 1
  have r2 := b2.frozen 2
  have r3 := b2.frozen 3
  have u0 := b3.frozen 0
  have u1 := b3.frozen 1
  go_wp2
  go_region
  all_goals
    go_wp2
    refine bodyPost_ret (v := .tuple #[.agg #[.int .i64 0, .int .i64 0, .int .i64 0], .agg #[.int .i64 0, .int .i64 0, .bool false, .int .i64 0], .agg #[.int .i64 2, .int .i64 (-1)]]) (by simp [results, Tryz.results120, go_sem, e0, e1, e2, g0, g1, g2, g3, i0, i1]) rfl ?_
    refine ⟨rfl, ?_⟩
    repeat (first | (with_reducible exact hvZ) | (with_reducible refine Below.drew ?_) | (with_reducible refine Below.setCell ?_ (by first | omega | (simp <;> omega)) _))

set_option maxRecDepth 100000 in
set_option maxHeartbeats 3200000 in
theorem stepOf_full (a : Option Addr) (n cap : Nat) (l : List Int) (m d s : Int) (t : List UInt8) (w : World) (hn : l.length = n) (hr : RowAt w a (encInts l)) (hc : n ≤ 4611686018427387904) (h : (planF l).1 = 0) (hV : viewE m d s = 0) (hs : s = 1000000) :
    Calls Tryz.prog 120 #[.slice a n cap, .agg #[.int .i64 m, .int .i64 d, .int .i64 s], .string ⟨t.toArray⟩] w fun e w' =>
      e = .returned (.tuple #[.agg #[.int .i64 0, .int .i64 0, .int .i64 0], .agg #[.int .i64 0, .int .i64 0, .bool false, .int .i64 0], .agg #[.int .i64 7, .int .i64 (-1)]]) ∧ Below w.heap.size w w' := by
  have KP := Lib.hid (fun (W : World) (h : Below w.heap.size w W) => planFault_any a n cap l W hn (hr.below h) hc)
  have e0 : (((0 : Nat), (-1 : Int)).1 : Int) = 0 := rfl
  have e1 : (((0 : Nat), (-1 : Int)).2 : Int) = -1 := rfl
  rw [(planF_ok h).1, e0, e1] at KP
  clear e0 e1
  have KV := Lib.hid (fun W : World => viewError_any m d s W)
  have KB := Lib.hid (fun W : World => bare_any 0 W)
  have KC := Lib.hid (fun W : World => bare_any 7 W)
  have e2 : ((0 : Nat) : Int) = 0 := rfl
  rw [hV, e2] at KV
  have hs7 : (s == 1000000) = true := by simpa using hs
  have hb0 : Below w.heap.size w ((((w.alloc (.cells #[.int .i64 m, .int .i64 d, .int .i64 s] 84)).alloc (.cells #[.int .i64 0, .int .i64 0, .int .i64 0] 84)).alloc (.cells #[.int .i64 0, .int .i64 0, .bool false, .int .i64 0] 91)).alloc (.cells #[.int .i64 0, .int .i64 0] 33)) := ((((Below.refl _ _).alloc (Nat.le_refl _) _).alloc (by simp) _).alloc (by simp <;> omega) _).alloc (by simp <;> omega) _
  have b0 : Blok ((((w.alloc (.cells #[.int .i64 m, .int .i64 d, .int .i64 s] 84)).alloc (.cells #[.int .i64 0, .int .i64 0, .int .i64 0] 84)).alloc (.cells #[.int .i64 0, .int .i64 0, .bool false, .int .i64 0] 91)).alloc (.cells #[.int .i64 0, .int .i64 0] 33)) w.heap.size 84 #[.int .i64 m, .int .i64 d, .int .i64 s] := (((Blok.new w _ _).alloc _).alloc _).alloc _
  have b1 : Blok ((((w.alloc (.cells #[.int .i64 m, .int .i64 d, .int .i64 s] 84)).alloc (.cells #[.int .i64 0, .int .i64 0, .int .i64 0] 84)).alloc (.cells #[.int .i64 0, .int .i64 0, .bool false, .int .i64 0] 91)).alloc (.cells #[.int .i64 0, .int .i64 0] 33)) (w.heap.size + 1) 84 #[.int .i64 0, .int .i64 0, .int .i64 0] := by
    have := ((Blok.new (w.alloc (.cells #[.int .i64 m, .int .i64 d, .int .i64 s] 84)) 84 #[.int .i64 0, .int .i64 0, .int .i64 0]).alloc (.cells #[.int .i64 0, .int .i64 0, .bool false, .int .i64 0] 91)).alloc (.cells #[.int .i64 0, .int .i64 0] 33)
    rwa [World.size_alloc] at this
  have b2 : Blok ((((w.alloc (.cells #[.int .i64 m, .int .i64 d, .int .i64 s] 84)).alloc (.cells #[.int .i64 0, .int .i64 0, .int .i64 0] 84)).alloc (.cells #[.int .i64 0, .int .i64 0, .bool false, .int .i64 0] 91)).alloc (.cells #[.int .i64 0, .int .i64 0] 33)) (w.heap.size + 1 + 1) 91 #[.int .i64 0, .int .i64 0, .bool false, .int .i64 0] := by
    have := (Blok.new ((w.alloc (.cells #[.int .i64 m, .int .i64 d, .int .i64 s] 84)).alloc (.cells #[.int .i64 0, .int .i64 0, .int .i64 0] 84)) 91 #[.int .i64 0, .int .i64 0, .bool false, .int .i64 0]).alloc (.cells #[.int .i64 0, .int .i64 0] 33)
    rwa [World.size_alloc, World.size_alloc] at this
  have b3 : Blok ((((w.alloc (.cells #[.int .i64 m, .int .i64 d, .int .i64 s] 84)).alloc (.cells #[.int .i64 0, .int .i64 0, .int .i64 0] 84)).alloc (.cells #[.int .i64 0, .int .i64 0, .bool false, .int .i64 0] 91)).alloc (.cells #[.int .i64 0, .int .i64 0] 33)) (w.heap.size + 1 + 1 + 1) 33 #[.int .i64 0, .int .i64 0] := by
    have := Blok.new (((w.alloc (.cells #[.int .i64 m, .int .i64 d, .int .i64 s] 84)).alloc (.cells #[.int .i64 0, .int .i64 0, .int .i64 0] 84)).alloc (.cells #[.int .i64 0, .int .i64 0, .bool false, .int .i64 0] 91)) 33 #[.int .i64 0, .int .i64 0]
    rwa [World.size_alloc, World.size_alloc, World.size_alloc] at this
  clear hn hr h hV e2 hs
  go_enter Tryz.func120, Tryz.ntmps120
  go_wp2_with fail
  generalize hW0 : ((((w.alloc (.cells #[.int .i64 m, .int .i64 d, .int .i64 s] 84)).alloc (.cells #[.int .i64 0, .int .i64 0, .int .i64 0] 84)).alloc (.cells #[.int .i64 0, .int .i64 0, .bool false, .int .i64 0] 91)).alloc (.cells #[.int .i64 0, .int .i64 0] 33)) = W0 at *
  clear hW0
  refine (KP.out _ hb0).mono ?_
  rintro e w1 ⟨rfl, hB⟩
  have hv1 := hb0.trans (hB.mono hb0.size)
  have b0 := b0.kept hB
  have b1 := b1.kept hB
  have b2 := b2.kept hB
  have b3 := b3.kept hB
  have bf := Blok.new w1 33 #[.int .i64 0, .int .i64 (-1)]
  have hv2 := hv1.alloc hv1.size (.cells #[.int .i64 0, .int .i64 (-1)] 33)
  have hF := hv1.size
  have hE := b3.lt
  have b0 := b0.alloc (.cells #[.int .i64 0, .int .i64 (-1)] 33)
  have b1 := b1.alloc (.cells #[.int .i64 0, .int .i64 (-1)] 33)
  have b2 := b2.alloc (.cells #[.int .i64 0, .int .i64 (-1)] 33)
  have b3 := b3.alloc (.cells #[.int .i64 0, .int .i64 (-1)] 33)
  clear hB hb0
  have c0 := b0.cell 0 rfl
  have c1 := b0.cell 1 rfl
  have c2 := b0.cell 2 rfl
  have j0 := bf.cell 0 rfl
  have j1 := bf.cell 1 rfl
  have q0 := bf.frozen 0
  have q1 := bf.frozen 1
  go_wp2_with fail
  generalize hW2 : w1.alloc (.cells #[.int .i64 0, .int .i64 (-1)] 33) = w2 at *
  generalize w1.heap.size = F at *
  clear hW2
  have nf0 : ¬ (w.heap.size + 1 = F) := by omega
  have ng0 : ¬ (F = w.heap.size + 1) := by omega
  have nf1 : ¬ (w.heap.size + 1 + 1 = F) := by omega
  have ng1 : ¬ (F = w.heap.size + 1 + 1) := by omega
  have nf2 : ¬ (w.heap.size + 1 + 1 + 1 = F) := by omega
  have ng2 : ¬ (F = w.heap.size + 1 + 1 + 1) := by omega
  refine (KV.out _).mono ?_
  rintro e w3 ⟨rfl, hB⟩
  have hv3 := hv2.trans (hB.mono hv2.size)
  have b0 := b0.kept hB
  have b1 := b1.kept hB
  have b2 := b2.kept hB
  have b3 := b3.kept hB
  have bf := bf.kept hB
  clear hB hv2
  go_wp2_with fail
  refine (KB.out _).mono ?_
  rintro e w4 ⟨rfl, hB⟩
  have hv4 := hv3.trans (hB.mono hv3.size)
  have b0 := b0.kept hB
  have b1 := b1.kept hB
  have b2 := b2.kept hB
  have b3 := b3.kept hB
  have bf := bf.kept hB
  clear hB hv3 c0 c1 c2 j0 j1 q0 q1
  have c0 := b0.cell 0 rfl
  have c1 := b0.cell 1 rfl
  have c2 := b0.cell 2 rfl
  have j0 := bf.cell 0 rfl
  have j1 := bf.cell 1 rfl
  have q0 := bf.frozen 0
  have q1 := bf.frozen 1
  have hv5 := (hv4.setCell (show w.heap.size ≤ (⟨F, 0, none⟩ : Addr).block from hF) (.int .i64 0)).setCell (show w.heap.size ≤ (⟨F, 1, none⟩ : Addr).block from hF) (.int .i64 (-1))
  have bF := bf.two (.int .i64 0) (.int .i64 (-1))
  have B0 := (b0.setOther 0 (.int .i64 0) (show w.heap.size ≠ F by omega)).setOther 1 (.int .i64 (-1)) (show w.heap.size ≠ F by omega)
  have B1 := (b1.setOther 0 (.int .i64 0) (show w.heap.size + 1 ≠ F by omega)).setOther 1 (.int .i64 (-1)) (show w.heap.size + 1 ≠ F by omega)
  have B2 := (b2.setOther 0 (.int .i64 0) (show w.heap.size + 1 + 1 ≠ F by omega)).setOther 1 (.int .i64 (-1)) (show w.heap.size + 1 + 1 ≠ F by omega)
  have B3 := (b3.setOther 0 (.int .i64 0) (show w.heap.size + 1 + 1 + 1 ≠ F by omega)).setOther 1 (.int .i64 (-1)) (show w.heap.size + 1 + 1 + 1 ≠ F by omega)
  have d0 := bF.cell 0 rfl
  have y2 := B0.cell 2 rfl
  go_wp2_with fail
  refine (KC.out _).mono ?_
  rintro e w6 ⟨rfl, hB⟩
  have hv6 := hv5.trans (hB.mono hv5.size)
  have b0 := B0.kept hB
  have b1 := B1.kept hB
  have b2 := B2.kept hB
  have b3 := B3.kept hB
  have bf := bF.kept hB
  clear hB hv5 hv4 bF B0 B1 B2 B3 c0 c1 c2 j0 j1 q0 q1 d0 y2
  have c0 := b0.cell 0 rfl
  have c1 := b0.cell 1 rfl
  have c2 := b0.cell 2 rfl
  have j0 := bf.cell 0 rfl
  have j1 := bf.cell 1 rfl
  have q0 := bf.frozen 0
  have q1 := bf.frozen 1
  have hv7 := (hv6.setCell (show w.heap.size ≤ (⟨F, 0, none⟩ : Addr).block from hF) (.int .i64 7)).setCell (show w.heap.size ≤ (⟨F, 1, none⟩ : Addr).block from hF) (.int .i64 (-1))
  have bF := bf.two (.int .i64 7) (.int .i64 (-1))
  have B0 := (b0.setOther 0 (.int .i64 7) (show w.heap.size ≠ F by omega)).setOther 1 (.int .i64 (-1)) (show w.heap.size ≠ F by omega)
  have B1 := (b1.setOther 0 (.int .i64 7) (show w.heap.size + 1 ≠ F by omega)).setOther 1 (.int .i64 (-1)) (show w.heap.size + 1 ≠ F by omega)
  have B2 := (b2.setOther 0 (.int .i64 7) (show w.heap.size + 1 + 1 ≠ F by omega)).setOther 1 (.int .i64 (-1)) (show w.heap.size + 1 + 1 ≠ F by omega)
  have B3 := (b3.setOther 0 (.int .i64 7) (show w.heap.size + 1 + 1 + 1 ≠ F by omega)).setOther 1 (.int .i64 (-1)) (show w.heap.size + 1 + 1 + 1 ≠ F by omega)
  have d0 := bF.cell 0 rfl
  have d1 := bF.cell 1 rfl
  have b1 := B1
  have b2 := B2
  have b3 := B3
  have hvZ := hv7
  have bf' := bf
  have bf := bF
  have e0 := b1.cell 0 rfl
  have e1 := b1.cell 1 rfl
  have e2 := b1.cell 2 rfl
  have g0 := b2.cell 0 rfl
  have g1 := b2.cell 1 rfl
  have g2 := b2.cell 2 rfl
  have g3 := b2.cell 3 rfl
  have i0 := b3.cell 0 rfl
  have i1 := b3.cell 1 rfl
  have j0 := bf.cell 0 rfl
  have j1 := bf.cell 1 rfl
  have q0 := b1.frozen 0
  have q1 := b1.frozen 1
  have q2 := b1.frozen 2
  have r0 := b2.frozen 0
  have r1 := b2.frozen 1
  have r2 := b2.frozen 2
  have r3 := b2.frozen 3
  have u0 := b3.frozen 0
  have u1 := b3.frozen 1
  go_wp2
  go_region
  all_goals
    go_wp2
    refine bodyPost_ret (v := .tuple #[.agg #[.int .i64 0, .int .i64 0, .int .i64 0], .agg #[.int .i64 0, .int .i64 0, .bool false, .int .i64 0], .agg #[.int .i64 7, .int .i64 (-1)]]) (by simp [results, Tryz.results120, go_sem, e0, e1, e2, g0, g1, g2, g3, i0, i1]) rfl ?_
    refine ⟨rfl, ?_⟩
    repeat (first | (with_reducible exact hvZ) | (with_reducible refine Below.drew ?_) | (with_reducible refine Below.setCell ?_ (by first | omega | (simp <;> omega)) _))

theorem ne_two {x y : Nat} (h : x ≠ y) : (¬ (x = y)) ∧ ¬ (y = x) := ⟨h, fun e => h e.symm⟩
set_option maxRecDepth 100000 in
set_option maxHeartbeats 3200000 in
theorem stepOf_g0 (a : Option Addr) (n cap : Nat) (l : List Int) (m pb s : Nat) (d ec x0 x1 x2 x3 x4 who WI WO mem val : Int) (H G : Bool) (t : List UInt8) (w : World) (hn : l.length = n) (hr : RowAt w a (encInts l)) (hc : n ≤ 4611686018427387904) (h : (planF l).1 = 0) (hV : viewE m d s = 0) (hs : s < 1000000) (hwho : whoV l s = who) (hm : m < 65536) (hpb : bitOf who = pb) (hH : hasB m who = H) (KRF : ∀ W : World, Calls Tryz.prog 42 #[.string ⟨t.toArray⟩] W fun e W' => e = .returned (.tuple #[.agg #[.int .i64 x0, .int .i64 x1, .int .i64 x2, .int .i64 x3, .int .i64 x4], .int .i64 ec]) ∧ Below W.heap.size W W') (hWI : WI = if H then (m : Int) else (m : Int) + (pb : Int)) (hWO : WO = if H then (m : Int) - (pb : Int) else (m : Int)) (hG : (((((ec == 0) && (x0 == who)) && (x1 == WI)) && (x2 == d)) && (x3 == (s : Int))) = G) (hg : G = false) (hmem : mem = WO) (hval : val = 0) :
    Calls Tryz.prog 120 #[.slice a n cap, .agg #[.int .i64 m, .int .i64 d, .int .i64 s], .string ⟨t.toArray⟩] w fun e w' =>
      e = .returned (.tuple #[.agg #[.int .i64 mem, .int .i64 d, .int .i64 ((s : Int) + 1)], .agg #[.int .i64 s, .int .i64 who, .bool false, .int .i64 val], .agg #[.int .i64 0, .int .i64 (-1)]]) ∧ Below w.heap.size w w' := by
  have KP := Lib.hid (fun (W : World) (h : Below w.heap.size w W) => planFault_any a n cap l W hn (hr.below h) hc)
  have e0 : (((0 : Nat), (-1 : Int)).1 : Int) = 0 := rfl
  have e1 : (((0 : Nat), (-1 : Int)).2 : Int) = -1 := rfl
  rw [(planF_ok h).1, e0, e1] at KP
  clear e0 e1
  have KV := Lib.hid (fun W : World => viewError_any m d s W)
  have KB := Lib.hid (fun W : World => bare_any 0 W)
  have e2 : ((0 : Nat) : Int) = 0 := rfl
  rw [hV, e2] at KV
  have hnd : nodeB who = true := by rw [← hwho]; exact (planF_ok h).2.2.2 _ (whoV_mem l _ (planF_ok h).2.1)
  have KH := Lib.hid (fun W : World => refHas_any m who W)
  rw [hH] at KH
  have KPW := Lib.hid (fun W : World => power_who who W hnd)
  rw [hpb] at KPW
  have KF := Lib.hid KRF
  have hn0 : 0 < n := by have := (planF_ok h).2.1; omega
  have hnz : ((n : Int) == 0) = false := by simp; omega
  have HQ := Lib.hid (fun (W : World) (hb : Below w.heap.size w W) => who_cell s (hr.below hb) hn hn0)
  rw [hwho] at HQ
  have hm2 : 0 ≤ (s : Int) % n := Int.emod_nonneg _ (by omega)
  have hm3 : (s : Int) % n < n := Int.emod_lt_of_pos _ (by omega)
  have hn32 : n ≤ 32 := by have := (planF_ok h).2.2.1; omega
  have hs7 : ((s : Int) == 1000000) = false := by simp; omega
  have hpl : 1 ≤ pb ∧ pb ≤ 65536 := by rw [← hpb]; have := bitOf_lt hnd; have h3 := Nat.two_pow_pos (who.toNat - 1); unfold bitOf at *; omega
  have HhWI := Lib.hid hWI
  have HhWO := Lib.hid hWO
  have HhG := Lib.hid hG
  have Hhmem := Lib.hid hmem
  have Hhval := Lib.hid hval
  have hb0 : Below w.heap.size w ((((w.alloc (.cells #[.int .i64 m, .int .i64 d, .int .i64 s] 84)).alloc (.cells #[.int .i64 0, .int .i64 0, .int .i64 0] 84)).alloc (.cells #[.int .i64 0, .int .i64 0, .bool false, .int .i64 0] 91)).alloc (.cells #[.int .i64 0, .int .i64 0] 33)) := ((((Below.refl _ _).alloc (Nat.le_refl _) _).alloc (by simp) _).alloc (by simp <;> omega) _).alloc (by simp <;> omega) _
  have b0 : Blok ((((w.alloc (.cells #[.int .i64 m, .int .i64 d, .int .i64 s] 84)).alloc (.cells #[.int .i64 0, .int .i64 0, .int .i64 0] 84)).alloc (.cells #[.int .i64 0, .int .i64 0, .bool false, .int .i64 0] 91)).alloc (.cells #[.int .i64 0, .int .i64 0] 33)) w.heap.size 84 #[.int .i64 m, .int .i64 d, .int .i64 s] := (((Blok.new w _ _).alloc _).alloc _).alloc _
  have b1 : Blok ((((w.alloc (.cells #[.int .i64 m, .int .i64 d, .int .i64 s] 84)).alloc (.cells #[.int .i64 0, .int .i64 0, .int .i64 0] 84)).alloc (.cells #[.int .i64 0, .int .i64 0, .bool false, .int .i64 0] 91)).alloc (.cells #[.int .i64 0, .int .i64 0] 33)) (w.heap.size + 1) 84 #[.int .i64 0, .int .i64 0, .int .i64 0] := by
    have := ((Blok.new (w.alloc (.cells #[.int .i64 m, .int .i64 d, .int .i64 s] 84)) 84 #[.int .i64 0, .int .i64 0, .int .i64 0]).alloc (.cells #[.int .i64 0, .int .i64 0, .bool false, .int .i64 0] 91)).alloc (.cells #[.int .i64 0, .int .i64 0] 33)
    rwa [World.size_alloc] at this
  have b2 : Blok ((((w.alloc (.cells #[.int .i64 m, .int .i64 d, .int .i64 s] 84)).alloc (.cells #[.int .i64 0, .int .i64 0, .int .i64 0] 84)).alloc (.cells #[.int .i64 0, .int .i64 0, .bool false, .int .i64 0] 91)).alloc (.cells #[.int .i64 0, .int .i64 0] 33)) (w.heap.size + 1 + 1) 91 #[.int .i64 0, .int .i64 0, .bool false, .int .i64 0] := by
    have := (Blok.new ((w.alloc (.cells #[.int .i64 m, .int .i64 d, .int .i64 s] 84)).alloc (.cells #[.int .i64 0, .int .i64 0, .int .i64 0] 84)) 91 #[.int .i64 0, .int .i64 0, .bool false, .int .i64 0]).alloc (.cells #[.int .i64 0, .int .i64 0] 33)
    rwa [World.size_alloc, World.size_alloc] at this
  have b3 : Blok ((((w.alloc (.cells #[.int .i64 m, .int .i64 d, .int .i64 s] 84)).alloc (.cells #[.int .i64 0, .int .i64 0, .int .i64 0] 84)).alloc (.cells #[.int .i64 0, .int .i64 0, .bool false, .int .i64 0] 91)).alloc (.cells #[.int .i64 0, .int .i64 0] 33)) (w.heap.size + 1 + 1 + 1) 33 #[.int .i64 0, .int .i64 0] := by
    have := Blok.new (((w.alloc (.cells #[.int .i64 m, .int .i64 d, .int .i64 s] 84)).alloc (.cells #[.int .i64 0, .int .i64 0, .int .i64 0] 84)).alloc (.cells #[.int .i64 0, .int .i64 0, .bool false, .int .i64 0] 91)) 33 #[.int .i64 0, .int .i64 0]
    rwa [World.size_alloc, World.size_alloc, World.size_alloc] at this
  clear hn hr h hV e2 hwho hpb hH hnd KRF hWI hWO hG hmem hval
  go_enter Tryz.func120, Tryz.ntmps120
  go_wp2_with fail
  generalize hW0 : ((((w.alloc (.cells #[.int .i64 m, .int .i64 d, .int .i64 s] 84)).alloc (.cells #[.int .i64 0, .int .i64 0, .int .i64 0] 84)).alloc (.cells #[.int .i64 0, .int .i64 0, .bool false, .int .i64 0] 91)).alloc (.cells #[.int .i64 0, .int .i64 0] 33)) = W0 at *
  clear hW0
  refine (KP.out _ hb0).mono ?_
  rintro e w1 ⟨rfl, hB⟩
  have hv1 := hb0.trans (hB.mono hb0.size)
  have b0 := b0.kept hB
  have b1 := b1.kept hB
  have b2 := b2.kept hB
  have b3 := b3.kept hB
  have bf := Blok.new w1 33 #[.int .i64 0, .int .i64 (-1)]
  have hv2 := hv1.alloc hv1.size (.cells #[.int .i64 0, .int .i64 (-1)] 33)
  have hF := hv1.size
  have hE := b3.lt
  have b0 := b0.alloc (.cells #[.int .i64 0, .int .i64 (-1)] 33)
  have b1 := b1.alloc (.cells #[.int .i64 0, .int .i64 (-1)] 33)
  have b2 := b2.alloc (.cells #[.int .i64 0, .int .i64 (-1)] 33)
  have b3 := b3.alloc (.cells #[.int .i64 0, .int .i64 (-1)] 33)
  clear hB hb0
  have c0 := b0.cell 0 rfl
  have c1 := b0.cell 1 rfl
  have c2 := b0.cell 2 rfl
  have j0 := bf.cell 0 rfl
  have j1 := bf.cell 1 rfl
  have q0 := bf.frozen 0
  have q1 := bf.frozen 1
  go_wp2_with fail
  generalize hW2 : w1.alloc (.cells #[.int .i64 0, .int .i64 (-1)] 33) = w2 at *
  generalize w1.heap.size = F at *
  clear hW2
  have nf0 : ¬ (w.heap.size + 1 = F) := by omega
  have ng0 : ¬ (F = w.heap.size + 1) := by omega
  have nf1 : ¬ (w.heap.size + 1 + 1 = F) := by omega
  have ng1 : ¬ (F = w.heap.size + 1 + 1) := by omega
  have nf2 : ¬ (w.heap.size + 1 + 1 + 1 = F) := by omega
  have ng2 : ¬ (F = w.heap.size + 1 + 1 + 1) := by omega
  refine (KV.out _).mono ?_
  rintro e w3 ⟨rfl, hB⟩
  have hv3 := hv2.trans (hB.mono hv2.size)
  have b0 := b0.kept hB
  have b1 := b1.kept hB
  have b2 := b2.kept hB
  have b3 := b3.kept hB
  have bf := bf.kept hB
  clear hB hv2
  go_wp2_with fail
  refine (KB.out _).mono ?_
  rintro e w4 ⟨rfl, hB⟩
  have hv4 := hv3.trans (hB.mono hv3.size)
  have b0 := b0.kept hB
  have b1 := b1.kept hB
  have b2 := b2.kept hB
  have b3 := b3.kept hB
  have bf := bf.kept hB
  clear hB hv3 c0 c1 c2 j0 j1 q0 q1
  have c0 := b0.cell 0 rfl
  have c1 := b0.cell 1 rfl
  have c2 := b0.cell 2 rfl
  have j0 := bf.cell 0 rfl
  have j1 := bf.cell 1 rfl
  have q0 := bf.frozen 0
  have q1 := bf.frozen 1
  have hv5 := (hv4.setCell (show w.heap.size ≤ (⟨F, 0, none⟩ : Addr).block from hF) (.int .i64 0)).setCell (show w.heap.size ≤ (⟨F, 1, none⟩ : Addr).block from hF) (.int .i64 (-1))
  have bF := bf.two (.int .i64 0) (.int .i64 (-1))
  have B0 := (b0.setOther 0 (.int .i64 0) (show w.heap.size ≠ F by omega)).setOther 1 (.int .i64 (-1)) (show w.heap.size ≠ F by omega)
  have B1 := (b1.setOther 0 (.int .i64 0) (show w.heap.size + 1 ≠ F by omega)).setOther 1 (.int .i64 (-1)) (show w.heap.size + 1 ≠ F by omega)
  have B2 := (b2.setOther 0 (.int .i64 0) (show w.heap.size + 1 + 1 ≠ F by omega)).setOther 1 (.int .i64 (-1)) (show w.heap.size + 1 + 1 ≠ F by omega)
  have B3 := (b3.setOther 0 (.int .i64 0) (show w.heap.size + 1 + 1 + 1 ≠ F by omega)).setOther 1 (.int .i64 (-1)) (show w.heap.size + 1 + 1 + 1 ≠ F by omega)
  obtain ⟨b, off, rfl, hbl, u0⟩ := HQ.out _ hv5
  have d0 := bF.cell 0 rfl
  have y0 := B0.cell 0 rfl
  have y2 := B0.cell 2 rfl
  go_wp2_with fail
  refine (KH.out _).mono ?_
  rintro e w6 ⟨rfl, rfl⟩
  generalize hW5 : (w4.setCell ⟨F, 0, none⟩ (.int .i64 0)).setCell ⟨F, 1, none⟩ (.int .i64 (-1)) = W5 at *
  clear hW5
  go_upto_if 58 with (fail)
  go_cut [12, 13] (fun s12 s13 wx => s12 = .int .i64 WI ∧ s13 = .int .i64 WO ∧ W5 = wx)
  case first =>
   as_aux_lemma =>
    cases H
    · go_wp2_with fail
      refine (KPW.out _).mono ?_
      rintro e w6 ⟨rfl, rfl⟩
      go_wp2_with fail
      go_meet
      case rel => exact ⟨by rw [HhWI.out]; rfl, by rw [HhWO.out]; rfl, rfl⟩
    · go_wp2_with fail
      refine (KPW.out _).mono ?_
      rintro e w6 ⟨rfl, rfl⟩
      go_wp2_with fail
      go_meet
      case rel => exact ⟨by rw [HhWI.out]; rfl, by rw [HhWO.out]; rfl, rfl⟩
  case rest =>
  obtain ⟨rfl, rfl, rfl⟩ := hcut
  go_wp2_with fail
  refine (KF.out _).mono ?_
  rintro e w6 ⟨rfl, hB⟩
  have hv6 := hv5.trans (hB.mono hv5.size)
  have b0 := B0.kept hB
  have b1 := B1.kept hB
  have b2 := B2.kept hB
  have b3 := B3.kept hB
  have bf := bF.kept hB
  clear hB hv5 hv4 bF B0 B1 B2 B3 c0 c1 c2 j0 j1 q0 q1 d0 y0 y2 u0 hbl HQ
  have br := Blok.new w6 86 #[.int .i64 x0, .int .i64 x1, .int .i64 x2, .int .i64 x3, .int .i64 x4]
  have hv7 := hv6.alloc hv6.size (.cells #[.int .i64 x0, .int .i64 x1, .int .i64 x2, .int .i64 x3, .int .i64 x4] 86)
  have hG6 := bf.lt
  have b0 := b0.alloc (.cells #[.int .i64 x0, .int .i64 x1, .int .i64 x2, .int .i64 x3, .int .i64 x4] 86)
  have b1 := b1.alloc (.cells #[.int .i64 x0, .int .i64 x1, .int .i64 x2, .int .i64 x3, .int .i64 x4] 86)
  have b2 := b2.alloc (.cells #[.int .i64 x0, .int .i64 x1, .int .i64 x2, .int .i64 x3, .int .i64 x4] 86)
  have b3 := b3.alloc (.cells #[.int .i64 x0, .int .i64 x1, .int .i64 x2, .int .i64 x3, .int .i64 x4] 86)
  have bf := bf.alloc (.cells #[.int .i64 x0, .int .i64 x1, .int .i64 x2, .int .i64 x3, .int .i64 x4] 86)
  have c1 := b0.cell 1 rfl
  have c2 := b0.cell 2 rfl
  have k0 := br.cell 0 rfl
  have k1 := br.cell 1 rfl
  have k2 := br.cell 2 rfl
  have k3 := br.cell 3 rfl
  have k4 := br.cell 4 rfl
  have hz1 : (w6.alloc (.cells #[.int .i64 x0, .int .i64 x1, .int .i64 x2, .int .i64 x3, .int .i64 x4] 86)).heap.size = w6.heap.size + 1 := World.size_alloc _ _
  go_upto_region 16 with (fail)
  generalize hW7 : w6.alloc (.cells #[.int .i64 x0, .int .i64 x1, .int .i64 x2, .int .i64 x3, .int .i64 x4] 86) = W7 at *
  clear hW7
  go_cut [16] (fun s16 wx => s16 = .bool G ∧ W7 = wx)
  case first =>
   as_aux_lemma =>
    cases t0 : (ec == 0)
    · have HGV : Hid (G = false) := by unfold Hid; rw [← HhG.out, t0]; simp
      go_wp2_with fail
      go_meet
      case rel => exact ⟨by rw [HGV.out], rfl⟩
    · skip
      cases t1 : (x0 == who)
      · have HGV : Hid (G = false) := by unfold Hid; rw [← HhG.out, t0, t1]; simp
        go_wp2_with fail
        go_meet
        case rel => exact ⟨by rw [HGV.out], rfl⟩
      · skip
        cases t2 : (x1 == WI)
        · have HGV : Hid (G = false) := by unfold Hid; rw [← HhG.out, t0, t1, t2]; simp
          go_wp2_with fail
          go_meet
          case rel => exact ⟨by rw [HGV.out], rfl⟩
        · skip
          cases t3 : (x2 == d)
          · have HGV : Hid (G = false) := by unfold Hid; rw [← HhG.out, t0, t1, t2, t3]; simp
            go_wp2_with fail
            go_meet
            case rel => exact ⟨by rw [HGV.out], rfl⟩
          · skip
            cases t4 : (x3 == (s : Int))
            · have HGV : Hid (G = false) := by unfold Hid; rw [← HhG.out, t0, t1, t2, t3, t4]; simp
              go_wp2_with fail
              go_meet
              case rel => exact ⟨by rw [HGV.out], rfl⟩
            · skip
              have HGV : Hid (G = true) := by unfold Hid; rw [← HhG.out, t0, t1, t2, t3, t4]; rfl
              go_wp2_with fail
              go_meet
              case rel => exact ⟨by rw [HGV.out], rfl⟩
  case rest =>
  obtain ⟨rfl, rfl⟩ := hcut
  subst hg
  have hme : mem = WO := Hhmem.out
  have hva : val = 0 := Hhval.out
  subst hme hva
  have bn := (Blok.new W7 91 #[.int .i64 s, .int .i64 who, .bool false, .int .i64 0]).alloc (.cells #[.int .i64 mem, .int .i64 d, .int .i64 ((s : Int) + 1)] 84)
  rw [hz1] at bn
  have hv8 := hv7.alloc hv7.size (.cells #[.int .i64 s, .int .i64 who, .bool false, .int .i64 0] 91)
  have hz2 : (W7.alloc (.cells #[.int .i64 s, .int .i64 who, .bool false, .int .i64 0] 91)).heap.size = w6.heap.size + 1 + 1 := by rw [World.size_alloc, hz1]
  have bv := Blok.new (W7.alloc (.cells #[.int .i64 s, .int .i64 who, .bool false, .int .i64 0] 91)) 84 #[.int .i64 mem, .int .i64 d, .int .i64 ((s : Int) + 1)]
  rw [hz2] at bv
  have m1 := (b0.alloc (.cells #[.int .i64 s, .int .i64 who, .bool false, .int .i64 0] 91)).cell 1 rfl
  have m2 := (b0.alloc (.cells #[.int .i64 s, .int .i64 who, .bool false, .int .i64 0] 91)).cell 2 rfl
  have hv9 := hv8.alloc hv8.size (.cells #[.int .i64 mem, .int .i64 d, .int .i64 ((s : Int) + 1)] 84)
  have hs6 := hv6.size
  go_wp2
  have b1 := (b1.alloc (.cells #[.int .i64 s, .int .i64 who, .bool false, .int .i64 0] 91)).alloc (.cells #[.int .i64 mem, .int .i64 d, .int .i64 ((s : Int) + 1)] 84)
  have b2 := (b2.alloc (.cells #[.int .i64 s, .int .i64 who, .bool false, .int .i64 0] 91)).alloc (.cells #[.int .i64 mem, .int .i64 d, .int .i64 ((s : Int) + 1)] 84)
  have b3 := (b3.alloc (.cells #[.int .i64 s, .int .i64 who, .bool false, .int .i64 0] 91)).alloc (.cells #[.int .i64 mem, .int .i64 d, .int .i64 ((s : Int) + 1)] 84)
  have bf := (bf.alloc (.cells #[.int .i64 s, .int .i64 who, .bool false, .int .i64 0] 91)).alloc (.cells #[.int .i64 mem, .int .i64 d, .int .i64 ((s : Int) + 1)] 84)
  generalize hW9 : (W7.alloc (.cells #[.int .i64 s, .int .i64 who, .bool false, .int .i64 0] 91)).alloc (.cells #[.int .i64 mem, .int .i64 d, .int .i64 ((s : Int) + 1)] 84) = W9 at *
  clear hW9
  generalize w6.heap.size = G6 at *
  obtain ⟨ne0, nz0⟩ := ne_two (x := G6 + 1) (y := F) (by omega)
  obtain ⟨ne1, nz1⟩ := ne_two (x := G6 + 1 + 1) (y := F) (by omega)
  obtain ⟨ne2, nz2⟩ := ne_two (x := G6 + 1 + 1) (y := G6 + 1) (by omega)
  obtain ⟨ne3, nz3⟩ := ne_two (x := G6 + 1 + 1) (y := G6) (by omega)
  obtain ⟨ne4, nz4⟩ := ne_two (x := G6 + 1) (y := G6) (by omega)
  obtain ⟨ne5, nz5⟩ := ne_two (x := w.heap.size + 1) (y := F) (by omega)
  obtain ⟨ne6, nz6⟩ := ne_two (x := w.heap.size + 1) (y := G6 + 1) (by omega)
  obtain ⟨ne7, nz7⟩ := ne_two (x := w.heap.size + 1) (y := G6 + 1 + 1) (by omega)
  obtain ⟨ne8, nz8⟩ := ne_two (x := w.heap.size + 1 + 1) (y := F) (by omega)
  obtain ⟨ne9, nz9⟩ := ne_two (x := w.heap.size + 1 + 1) (y := G6 + 1) (by omega)
  obtain ⟨ne10, nz10⟩ := ne_two (x := w.heap.size + 1 + 1) (y := G6 + 1 + 1) (by omega)
  obtain ⟨ne11, nz11⟩ := ne_two (x := w.heap.size + 1 + 1 + 1) (y := F) (by omega)
  obtain ⟨ne12, nz12⟩ := ne_two (x := w.heap.size + 1 + 1 + 1) (y := G6 + 1) (by omega)
  obtain ⟨ne13, nz13⟩ := ne_two (x := w.heap.size + 1 + 1 + 1) (y := G6 + 1 + 1) (by omega)
  have a0 := bn.cell 0 rfl
  have a1 := bn.cell 1 rfl
  have a2 := bn.cell 2 rfl
  have a3 := bn.cell 3 rfl
  have o0 := bv.cell 0 rfl
  have o1 := bv.cell 1 rfl
  have o2 := bv.cell 2 rfl
  have v0 := bn.frozen 0
  have v1 := bn.frozen 1
  have v2 := bn.frozen 2
  have v3 := bn.frozen 3
  have s0 := bv.frozen 0
  have hvZ := hv9
  have e0 := b1.cell 0 rfl
  have e1 := b1.cell 1 rfl
  have e2 := b1.cell 2 rfl
  have g0 := b2.cell 0 rfl
  have g1 := b2.cell 1 rfl
  have g2 := b2.cell 2 rfl
  have g3 := b2.cell 3 rfl
  have i0 := b3.cell 0 rfl
  have i1 := b3.cell 1 rfl
  have j0 := bf.cell 0 rfl
  have j1 := bf.cell 1 rfl
  have q0 := b1.frozen 0
  have q1 := b1.frozen 1
  have q2 := b1.frozen 2
  have r0 := b2.frozen 0
  have r1 := b2.frozen 1
  have r2 := b2.frozen 2
  have r3 := b2.frozen 3
  have u0 := b3.frozen 0
  have u1 := b3.frozen 1
  go_wp2
  go_region
  all_goals
    go_wp2
    refine bodyPost_ret (v := .tuple #[.agg #[.int .i64 mem, .int .i64 d, .int .i64 ((s : Int) + 1)], .agg #[.int .i64 s, .int .i64 who, .bool false, .int .i64 0], .agg #[.int .i64 0, .int .i64 (-1)]]) (by simp [results, Tryz.results120, go_sem, e0, e1, e2, g0, g1, g2, g3, i0, i1]) rfl ?_
    refine ⟨rfl, ?_⟩
    repeat (first | (with_reducible exact hvZ) | (with_reducible refine Below.drew ?_) | (with_reducible refine Below.setCell ?_ (by first | omega | (simp <;> omega)) _))
  
set_option maxRecDepth 100000 in
set_option maxHeartbeats 3200000 in
theorem stepOf_g1 (a : Option Addr) (n cap : Nat) (l : List Int) (m pb s : Nat) (d ec x0 x1 x2 x3 x4 who WI WO mem val : Int) (H G : Bool) (t : List UInt8) (w : World) (hn : l.length = n) (hr : RowAt w a (encInts l)) (hc : n ≤ 4611686018427387904) (h : (planF l).1 = 0) (hV : viewE m d s = 0) (hs : s < 1000000) (hwho : whoV l s = who) (hm : m < 65536) (hpb : bitOf who = pb) (hH : hasB m who = H) (KRF : ∀ W : World, Calls Tryz.prog 42 #[.string ⟨t.toArray⟩] W fun e W' => e = .returned (.tuple #[.agg #[.int .i64 x0, .int .i64 x1, .int .i64 x2, .int .i64 x3, .int .i64 x4], .int .i64 ec]) ∧ Below W.heap.size W W') (hWI : WI = if H then (m : Int) else (m : Int) + (pb : Int)) (hWO : WO = if H then (m : Int) - (pb : Int) else (m : Int)) (hG : (((((ec == 0) && (x0 == who)) && (x1 == WI)) && (x2 == d)) && (x3 == (s : Int))) = G) (hg : G = true) (hmem : mem = WI) (hval : val = x4) :
    Calls Tryz.prog 120 #[.slice a n cap, .agg #[.int .i64 m, .int .i64 d, .int .i64 s], .string ⟨t.toArray⟩] w fun e w' =>
      e = .returned (.tuple #[.agg #[.int .i64 mem, .int .i64 d, .int .i64 ((s : Int) + 1)], .agg #[.int .i64 s, .int .i64 who, .bool true, .int .i64 val], .agg #[.int .i64 0, .int .i64 (-1)]]) ∧ Below w.heap.size w w' := by
  have KP := Lib.hid (fun (W : World) (h : Below w.heap.size w W) => planFault_any a n cap l W hn (hr.below h) hc)
  have e0 : (((0 : Nat), (-1 : Int)).1 : Int) = 0 := rfl
  have e1 : (((0 : Nat), (-1 : Int)).2 : Int) = -1 := rfl
  rw [(planF_ok h).1, e0, e1] at KP
  clear e0 e1
  have KV := Lib.hid (fun W : World => viewError_any m d s W)
  have KB := Lib.hid (fun W : World => bare_any 0 W)
  have e2 : ((0 : Nat) : Int) = 0 := rfl
  rw [hV, e2] at KV
  have hnd : nodeB who = true := by rw [← hwho]; exact (planF_ok h).2.2.2 _ (whoV_mem l _ (planF_ok h).2.1)
  have KH := Lib.hid (fun W : World => refHas_any m who W)
  rw [hH] at KH
  have KPW := Lib.hid (fun W : World => power_who who W hnd)
  rw [hpb] at KPW
  have KF := Lib.hid KRF
  have hn0 : 0 < n := by have := (planF_ok h).2.1; omega
  have hnz : ((n : Int) == 0) = false := by simp; omega
  have HQ := Lib.hid (fun (W : World) (hb : Below w.heap.size w W) => who_cell s (hr.below hb) hn hn0)
  rw [hwho] at HQ
  have hm2 : 0 ≤ (s : Int) % n := Int.emod_nonneg _ (by omega)
  have hm3 : (s : Int) % n < n := Int.emod_lt_of_pos _ (by omega)
  have hn32 : n ≤ 32 := by have := (planF_ok h).2.2.1; omega
  have hs7 : ((s : Int) == 1000000) = false := by simp; omega
  have hpl : 1 ≤ pb ∧ pb ≤ 65536 := by rw [← hpb]; have := bitOf_lt hnd; have h3 := Nat.two_pow_pos (who.toNat - 1); unfold bitOf at *; omega
  have HhWI := Lib.hid hWI
  have HhWO := Lib.hid hWO
  have HhG := Lib.hid hG
  have Hhmem := Lib.hid hmem
  have Hhval := Lib.hid hval
  have hb0 : Below w.heap.size w ((((w.alloc (.cells #[.int .i64 m, .int .i64 d, .int .i64 s] 84)).alloc (.cells #[.int .i64 0, .int .i64 0, .int .i64 0] 84)).alloc (.cells #[.int .i64 0, .int .i64 0, .bool false, .int .i64 0] 91)).alloc (.cells #[.int .i64 0, .int .i64 0] 33)) := ((((Below.refl _ _).alloc (Nat.le_refl _) _).alloc (by simp) _).alloc (by simp <;> omega) _).alloc (by simp <;> omega) _
  have b0 : Blok ((((w.alloc (.cells #[.int .i64 m, .int .i64 d, .int .i64 s] 84)).alloc (.cells #[.int .i64 0, .int .i64 0, .int .i64 0] 84)).alloc (.cells #[.int .i64 0, .int .i64 0, .bool false, .int .i64 0] 91)).alloc (.cells #[.int .i64 0, .int .i64 0] 33)) w.heap.size 84 #[.int .i64 m, .int .i64 d, .int .i64 s] := (((Blok.new w _ _).alloc _).alloc _).alloc _
  have b1 : Blok ((((w.alloc (.cells #[.int .i64 m, .int .i64 d, .int .i64 s] 84)).alloc (.cells #[.int .i64 0, .int .i64 0, .int .i64 0] 84)).alloc (.cells #[.int .i64 0, .int .i64 0, .bool false, .int .i64 0] 91)).alloc (.cells #[.int .i64 0, .int .i64 0] 33)) (w.heap.size + 1) 84 #[.int .i64 0, .int .i64 0, .int .i64 0] := by
    have := ((Blok.new (w.alloc (.cells #[.int .i64 m, .int .i64 d, .int .i64 s] 84)) 84 #[.int .i64 0, .int .i64 0, .int .i64 0]).alloc (.cells #[.int .i64 0, .int .i64 0, .bool false, .int .i64 0] 91)).alloc (.cells #[.int .i64 0, .int .i64 0] 33)
    rwa [World.size_alloc] at this
  have b2 : Blok ((((w.alloc (.cells #[.int .i64 m, .int .i64 d, .int .i64 s] 84)).alloc (.cells #[.int .i64 0, .int .i64 0, .int .i64 0] 84)).alloc (.cells #[.int .i64 0, .int .i64 0, .bool false, .int .i64 0] 91)).alloc (.cells #[.int .i64 0, .int .i64 0] 33)) (w.heap.size + 1 + 1) 91 #[.int .i64 0, .int .i64 0, .bool false, .int .i64 0] := by
    have := (Blok.new ((w.alloc (.cells #[.int .i64 m, .int .i64 d, .int .i64 s] 84)).alloc (.cells #[.int .i64 0, .int .i64 0, .int .i64 0] 84)) 91 #[.int .i64 0, .int .i64 0, .bool false, .int .i64 0]).alloc (.cells #[.int .i64 0, .int .i64 0] 33)
    rwa [World.size_alloc, World.size_alloc] at this
  have b3 : Blok ((((w.alloc (.cells #[.int .i64 m, .int .i64 d, .int .i64 s] 84)).alloc (.cells #[.int .i64 0, .int .i64 0, .int .i64 0] 84)).alloc (.cells #[.int .i64 0, .int .i64 0, .bool false, .int .i64 0] 91)).alloc (.cells #[.int .i64 0, .int .i64 0] 33)) (w.heap.size + 1 + 1 + 1) 33 #[.int .i64 0, .int .i64 0] := by
    have := Blok.new (((w.alloc (.cells #[.int .i64 m, .int .i64 d, .int .i64 s] 84)).alloc (.cells #[.int .i64 0, .int .i64 0, .int .i64 0] 84)).alloc (.cells #[.int .i64 0, .int .i64 0, .bool false, .int .i64 0] 91)) 33 #[.int .i64 0, .int .i64 0]
    rwa [World.size_alloc, World.size_alloc, World.size_alloc] at this
  clear hn hr h hV e2 hwho hpb hH hnd KRF hWI hWO hG hmem hval
  go_enter Tryz.func120, Tryz.ntmps120
  go_wp2_with fail
  generalize hW0 : ((((w.alloc (.cells #[.int .i64 m, .int .i64 d, .int .i64 s] 84)).alloc (.cells #[.int .i64 0, .int .i64 0, .int .i64 0] 84)).alloc (.cells #[.int .i64 0, .int .i64 0, .bool false, .int .i64 0] 91)).alloc (.cells #[.int .i64 0, .int .i64 0] 33)) = W0 at *
  clear hW0
  refine (KP.out _ hb0).mono ?_
  rintro e w1 ⟨rfl, hB⟩
  have hv1 := hb0.trans (hB.mono hb0.size)
  have b0 := b0.kept hB
  have b1 := b1.kept hB
  have b2 := b2.kept hB
  have b3 := b3.kept hB
  have bf := Blok.new w1 33 #[.int .i64 0, .int .i64 (-1)]
  have hv2 := hv1.alloc hv1.size (.cells #[.int .i64 0, .int .i64 (-1)] 33)
  have hF := hv1.size
  have hE := b3.lt
  have b0 := b0.alloc (.cells #[.int .i64 0, .int .i64 (-1)] 33)
  have b1 := b1.alloc (.cells #[.int .i64 0, .int .i64 (-1)] 33)
  have b2 := b2.alloc (.cells #[.int .i64 0, .int .i64 (-1)] 33)
  have b3 := b3.alloc (.cells #[.int .i64 0, .int .i64 (-1)] 33)
  clear hB hb0
  have c0 := b0.cell 0 rfl
  have c1 := b0.cell 1 rfl
  have c2 := b0.cell 2 rfl
  have j0 := bf.cell 0 rfl
  have j1 := bf.cell 1 rfl
  have q0 := bf.frozen 0
  have q1 := bf.frozen 1
  go_wp2_with fail
  generalize hW2 : w1.alloc (.cells #[.int .i64 0, .int .i64 (-1)] 33) = w2 at *
  generalize w1.heap.size = F at *
  clear hW2
  have nf0 : ¬ (w.heap.size + 1 = F) := by omega
  have ng0 : ¬ (F = w.heap.size + 1) := by omega
  have nf1 : ¬ (w.heap.size + 1 + 1 = F) := by omega
  have ng1 : ¬ (F = w.heap.size + 1 + 1) := by omega
  have nf2 : ¬ (w.heap.size + 1 + 1 + 1 = F) := by omega
  have ng2 : ¬ (F = w.heap.size + 1 + 1 + 1) := by omega
  refine (KV.out _).mono ?_
  rintro e w3 ⟨rfl, hB⟩
  have hv3 := hv2.trans (hB.mono hv2.size)
  have b0 := b0.kept hB
  have b1 := b1.kept hB
  have b2 := b2.kept hB
  have b3 := b3.kept hB
  have bf := bf.kept hB
  clear hB hv2
  go_wp2_with fail
  refine (KB.out _).mono ?_
  rintro e w4 ⟨rfl, hB⟩
  have hv4 := hv3.trans (hB.mono hv3.size)
  have b0 := b0.kept hB
  have b1 := b1.kept hB
  have b2 := b2.kept hB
  have b3 := b3.kept hB
  have bf := bf.kept hB
  clear hB hv3 c0 c1 c2 j0 j1 q0 q1
  have c0 := b0.cell 0 rfl
  have c1 := b0.cell 1 rfl
  have c2 := b0.cell 2 rfl
  have j0 := bf.cell 0 rfl
  have j1 := bf.cell 1 rfl
  have q0 := bf.frozen 0
  have q1 := bf.frozen 1
  have hv5 := (hv4.setCell (show w.heap.size ≤ (⟨F, 0, none⟩ : Addr).block from hF) (.int .i64 0)).setCell (show w.heap.size ≤ (⟨F, 1, none⟩ : Addr).block from hF) (.int .i64 (-1))
  have bF := bf.two (.int .i64 0) (.int .i64 (-1))
  have B0 := (b0.setOther 0 (.int .i64 0) (show w.heap.size ≠ F by omega)).setOther 1 (.int .i64 (-1)) (show w.heap.size ≠ F by omega)
  have B1 := (b1.setOther 0 (.int .i64 0) (show w.heap.size + 1 ≠ F by omega)).setOther 1 (.int .i64 (-1)) (show w.heap.size + 1 ≠ F by omega)
  have B2 := (b2.setOther 0 (.int .i64 0) (show w.heap.size + 1 + 1 ≠ F by omega)).setOther 1 (.int .i64 (-1)) (show w.heap.size + 1 + 1 ≠ F by omega)
  have B3 := (b3.setOther 0 (.int .i64 0) (show w.heap.size + 1 + 1 + 1 ≠ F by omega)).setOther 1 (.int .i64 (-1)) (show w.heap.size + 1 + 1 + 1 ≠ F by omega)
  obtain ⟨b, off, rfl, hbl, u0⟩ := HQ.out _ hv5
  have d0 := bF.cell 0 rfl
  have y0 := B0.cell 0 rfl
  have y2 := B0.cell 2 rfl
  go_wp2_with fail
  refine (KH.out _).mono ?_
  rintro e w6 ⟨rfl, rfl⟩
  generalize hW5 : (w4.setCell ⟨F, 0, none⟩ (.int .i64 0)).setCell ⟨F, 1, none⟩ (.int .i64 (-1)) = W5 at *
  clear hW5
  go_upto_if 58 with (fail)
  go_cut [12, 13] (fun s12 s13 wx => s12 = .int .i64 WI ∧ s13 = .int .i64 WO ∧ W5 = wx)
  case first =>
   as_aux_lemma =>
    cases H
    · go_wp2_with fail
      refine (KPW.out _).mono ?_
      rintro e w6 ⟨rfl, rfl⟩
      go_wp2_with fail
      go_meet
      case rel => exact ⟨by rw [HhWI.out]; rfl, by rw [HhWO.out]; rfl, rfl⟩
    · go_wp2_with fail
      refine (KPW.out _).mono ?_
      rintro e w6 ⟨rfl, rfl⟩
      go_wp2_with fail
      go_meet
      case rel => exact ⟨by rw [HhWI.out]; rfl, by rw [HhWO.out]; rfl, rfl⟩
  case rest =>
  obtain ⟨rfl, rfl, rfl⟩ := hcut
  go_wp2_with fail
  refine (KF.out _).mono ?_
  rintro e w6 ⟨rfl, hB⟩
  have hv6 := hv5.trans (hB.mono hv5.size)
  have b0 := B0.kept hB
  have b1 := B1.kept hB
  have b2 := B2.kept hB
  have b3 := B3.kept hB
  have bf := bF.kept hB
  clear hB hv5 hv4 bF B0 B1 B2 B3 c0 c1 c2 j0 j1 q0 q1 d0 y0 y2 u0 hbl HQ
  have br := Blok.new w6 86 #[.int .i64 x0, .int .i64 x1, .int .i64 x2, .int .i64 x3, .int .i64 x4]
  have hv7 := hv6.alloc hv6.size (.cells #[.int .i64 x0, .int .i64 x1, .int .i64 x2, .int .i64 x3, .int .i64 x4] 86)
  have hG6 := bf.lt
  have b0 := b0.alloc (.cells #[.int .i64 x0, .int .i64 x1, .int .i64 x2, .int .i64 x3, .int .i64 x4] 86)
  have b1 := b1.alloc (.cells #[.int .i64 x0, .int .i64 x1, .int .i64 x2, .int .i64 x3, .int .i64 x4] 86)
  have b2 := b2.alloc (.cells #[.int .i64 x0, .int .i64 x1, .int .i64 x2, .int .i64 x3, .int .i64 x4] 86)
  have b3 := b3.alloc (.cells #[.int .i64 x0, .int .i64 x1, .int .i64 x2, .int .i64 x3, .int .i64 x4] 86)
  have bf := bf.alloc (.cells #[.int .i64 x0, .int .i64 x1, .int .i64 x2, .int .i64 x3, .int .i64 x4] 86)
  have c1 := b0.cell 1 rfl
  have c2 := b0.cell 2 rfl
  have k0 := br.cell 0 rfl
  have k1 := br.cell 1 rfl
  have k2 := br.cell 2 rfl
  have k3 := br.cell 3 rfl
  have k4 := br.cell 4 rfl
  have hz1 : (w6.alloc (.cells #[.int .i64 x0, .int .i64 x1, .int .i64 x2, .int .i64 x3, .int .i64 x4] 86)).heap.size = w6.heap.size + 1 := World.size_alloc _ _
  go_upto_region 16 with (fail)
  generalize hW7 : w6.alloc (.cells #[.int .i64 x0, .int .i64 x1, .int .i64 x2, .int .i64 x3, .int .i64 x4] 86) = W7 at *
  clear hW7
  go_cut [16] (fun s16 wx => s16 = .bool G ∧ W7 = wx)
  case first =>
   as_aux_lemma =>
    cases t0 : (ec == 0)
    · have HGV : Hid (G = false) := by unfold Hid; rw [← HhG.out, t0]; simp
      go_wp2_with fail
      go_meet
      case rel => exact ⟨by rw [HGV.out], rfl⟩
    · skip
      cases t1 : (x0 == who)
      · have HGV : Hid (G = false) := by unfold Hid; rw [← HhG.out, t0, t1]; simp
        go_wp2_with fail
        go_meet
        case rel => exact ⟨by rw [HGV.out], rfl⟩
      · skip
        cases t2 : (x1 == WI)
        · have HGV : Hid (G = false) := by unfold Hid; rw [← HhG.out, t0, t1, t2]; simp
          go_wp2_with fail
          go_meet
          case rel => exact ⟨by rw [HGV.out], rfl⟩
        · skip
          cases t3 : (x2 == d)
          · have HGV : Hid (G = false) := by unfold Hid; rw [← HhG.out, t0, t1, t2, t3]; simp
            go_wp2_with fail
            go_meet
            case rel => exact ⟨by rw [HGV.out], rfl⟩
          · skip
            cases t4 : (x3 == (s : Int))
            · have HGV : Hid (G = false) := by unfold Hid; rw [← HhG.out, t0, t1, t2, t3, t4]; simp
              go_wp2_with fail
              go_meet
              case rel => exact ⟨by rw [HGV.out], rfl⟩
            · skip
              have HGV : Hid (G = true) := by unfold Hid; rw [← HhG.out, t0, t1, t2, t3, t4]; rfl
              go_wp2_with fail
              go_meet
              case rel => exact ⟨by rw [HGV.out], rfl⟩
  case rest =>
  obtain ⟨rfl, rfl⟩ := hcut
  subst hg
  have hme : mem = WI := Hhmem.out
  have hva : val = x4 := Hhval.out
  subst hme hva
  have bn := (Blok.new W7 91 #[.int .i64 s, .int .i64 who, .bool true, .int .i64 val]).alloc (.cells #[.int .i64 mem, .int .i64 d, .int .i64 ((s : Int) + 1)] 84)
  rw [hz1] at bn
  have hv8 := hv7.alloc hv7.size (.cells #[.int .i64 s, .int .i64 who, .bool true, .int .i64 val] 91)
  have hz2 : (W7.alloc (.cells #[.int .i64 s, .int .i64 who, .bool true, .int .i64 val] 91)).heap.size = w6.heap.size + 1 + 1 := by rw [World.size_alloc, hz1]
  have bv := Blok.new (W7.alloc (.cells #[.int .i64 s, .int .i64 who, .bool true, .int .i64 val] 91)) 84 #[.int .i64 mem, .int .i64 d, .int .i64 ((s : Int) + 1)]
  rw [hz2] at bv
  have m1 := (b0.alloc (.cells #[.int .i64 s, .int .i64 who, .bool false, .int .i64 0] 91)).cell 1 rfl
  have m2 := (b0.alloc (.cells #[.int .i64 s, .int .i64 who, .bool false, .int .i64 0] 91)).cell 2 rfl
  have hv9 := hv8.alloc hv8.size (.cells #[.int .i64 mem, .int .i64 d, .int .i64 ((s : Int) + 1)] 84)
  have hs6 := hv6.size
  go_wp2
  have b1 := (b1.alloc (.cells #[.int .i64 s, .int .i64 who, .bool true, .int .i64 val] 91)).alloc (.cells #[.int .i64 mem, .int .i64 d, .int .i64 ((s : Int) + 1)] 84)
  have b2 := (b2.alloc (.cells #[.int .i64 s, .int .i64 who, .bool true, .int .i64 val] 91)).alloc (.cells #[.int .i64 mem, .int .i64 d, .int .i64 ((s : Int) + 1)] 84)
  have b3 := (b3.alloc (.cells #[.int .i64 s, .int .i64 who, .bool true, .int .i64 val] 91)).alloc (.cells #[.int .i64 mem, .int .i64 d, .int .i64 ((s : Int) + 1)] 84)
  have bf := (bf.alloc (.cells #[.int .i64 s, .int .i64 who, .bool true, .int .i64 val] 91)).alloc (.cells #[.int .i64 mem, .int .i64 d, .int .i64 ((s : Int) + 1)] 84)
  generalize hW9 : (W7.alloc (.cells #[.int .i64 s, .int .i64 who, .bool true, .int .i64 val] 91)).alloc (.cells #[.int .i64 mem, .int .i64 d, .int .i64 ((s : Int) + 1)] 84) = W9 at *
  clear hW9
  generalize w6.heap.size = G6 at *
  obtain ⟨ne0, nz0⟩ := ne_two (x := G6 + 1) (y := F) (by omega)
  obtain ⟨ne1, nz1⟩ := ne_two (x := G6 + 1 + 1) (y := F) (by omega)
  obtain ⟨ne2, nz2⟩ := ne_two (x := G6 + 1 + 1) (y := G6 + 1) (by omega)
  obtain ⟨ne3, nz3⟩ := ne_two (x := G6 + 1 + 1) (y := G6) (by omega)
  obtain ⟨ne4, nz4⟩ := ne_two (x := G6 + 1) (y := G6) (by omega)
  obtain ⟨ne5, nz5⟩ := ne_two (x := w.heap.size + 1) (y := F) (by omega)
  obtain ⟨ne6, nz6⟩ := ne_two (x := w.heap.size + 1) (y := G6 + 1) (by omega)
  obtain ⟨ne7, nz7⟩ := ne_two (x := w.heap.size + 1) (y := G6 + 1 + 1) (by omega)
  obtain ⟨ne8, nz8⟩ := ne_two (x := w.heap.size + 1 + 1) (y := F) (by omega)
  obtain ⟨ne9, nz9⟩ := ne_two (x := w.heap.size + 1 + 1) (y := G6 + 1) (by omega)
  obtain ⟨ne10, nz10⟩ := ne_two (x := w.heap.size + 1 + 1) (y := G6 + 1 + 1) (by omega)
  obtain ⟨ne11, nz11⟩ := ne_two (x := w.heap.size + 1 + 1 + 1) (y := F) (by omega)
  obtain ⟨ne12, nz12⟩ := ne_two (x := w.heap.size + 1 + 1 + 1) (y := G6 + 1) (by omega)
  obtain ⟨ne13, nz13⟩ := ne_two (x := w.heap.size + 1 + 1 + 1) (y := G6 + 1 + 1) (by omega)
  have a0 := bn.cell 0 rfl
  have a1 := bn.cell 1 rfl
  have a2 := bn.cell 2 rfl
  have a3 := bn.cell 3 rfl
  have o0 := bv.cell 0 rfl
  have o1 := bv.cell 1 rfl
  have o2 := bv.cell 2 rfl
  have v0 := bn.frozen 0
  have v1 := bn.frozen 1
  have v2 := bn.frozen 2
  have v3 := bn.frozen 3
  have s0 := bv.frozen 0
  have hvZ := hv9
  have e0 := b1.cell 0 rfl
  have e1 := b1.cell 1 rfl
  have e2 := b1.cell 2 rfl
  have g0 := b2.cell 0 rfl
  have g1 := b2.cell 1 rfl
  have g2 := b2.cell 2 rfl
  have g3 := b2.cell 3 rfl
  have i0 := b3.cell 0 rfl
  have i1 := b3.cell 1 rfl
  have j0 := bf.cell 0 rfl
  have j1 := bf.cell 1 rfl
  have q0 := b1.frozen 0
  have q1 := b1.frozen 1
  have q2 := b1.frozen 2
  have r0 := b2.frozen 0
  have r1 := b2.frozen 1
  have r2 := b2.frozen 2
  have r3 := b2.frozen 3
  have u0 := b3.frozen 0
  have u1 := b3.frozen 1
  go_wp2
  go_region
  all_goals
    go_wp2
    refine bodyPost_ret (v := .tuple #[.agg #[.int .i64 mem, .int .i64 d, .int .i64 ((s : Int) + 1)], .agg #[.int .i64 s, .int .i64 who, .bool true, .int .i64 val], .agg #[.int .i64 0, .int .i64 (-1)]]) (by simp [results, Tryz.results120, go_sem, e0, e1, e2, g0, g1, g2, g3, i0, i1]) rfl ?_
    refine ⟨rfl, ?_⟩
    repeat (first | (with_reducible exact hvZ) | (with_reducible refine Below.drew ?_) | (with_reducible refine Below.setCell ?_ (by first | omega | (simp <;> omega)) _))
  
end Go.Proofs.YtoekajpjfoolpaaGreatDoor
