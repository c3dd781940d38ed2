/- the reference's SendOf, StepOf. -/
import Derived.Test.YtoekajpjfoolpaaGreatDoorRefReadF
import Derived.Test.YtoekajpjfoolpaaGreatDoorRefPlan
import Derived.Test.YtoekajpjfoolpaaGreatDoorMemSend
import Derived.Test.YtoekajpjfoolpaaGreatDoorCrewRead
namespace Go.Proofs.YtoekajpjfoolpaaGreatDoor
open Go.RowKit

theorem hasB_who {m : Nat} {who : Int} (hm : m < 65536) (hn : nodeB who = true) : hasB (m : Int) who = m.testBit (who.toNat - 1) := by
  have h1 : crewB (m : Int) = true := by simp only [crewB, decide_eq_true_eq]; omega
  rw [hasB, h1, hn, Bool.true_and, Bool.true_and, Int.toNat_natCast]
theorem step_has {m : Nat} {who : Int} (hm : m < 65536) (hn : nodeB who = true) (h : hasB (m : Int) who = true) :
    m ||| bitOf who = m ∧ lessN (m ||| bitOf who) (bitOf who) + bitOf who = m := by
  rw [hasB_who hm hn] at h
  have e1 : m ||| bitOf who = m := or_has h
  exact ⟨e1, by rw [e1]; exact less_has h⟩
theorem step_new {m : Nat} {who : Int} (hm : m < 65536) (hn : nodeB who = true) (h : hasB (m : Int) who = false) :
    m ||| bitOf who = m + bitOf who ∧ lessN (m ||| bitOf who) (bitOf who) = m := by
  rw [hasB_who hm hn] at h
  exact ⟨or_new h, by rw [less_or]; exact less_new h⟩
theorem power_who (who : Int) (w : World) (hn : nodeB who = true) :
    Calls Tryz.prog 112 #[.int .i64 who] w fun e w' => e = .returned (.int .i64 (bitOf who)) ∧ w = w' := by
  simp only [nodeB, decide_eq_true_eq] at hn
  obtain ⟨k, rfl⟩ : ∃ k : Nat, who = (k : Int) + 1 := ⟨(who - 1).toNat, by omega⟩
  have := powerOf_any k w (by omega)
  rw [show bitOf ((k : Int) + 1) = pw k by rw [bitOf, pw, show ((k : Int) + 1).toNat - 1 = k by omega]]
  exact this

theorem Blok.two {W : World} {b : Nat} {t : TypeId} {x0 y0 : Value} (h : Blok W b t #[x0, y0]) (x y : Value) : Blok ((W.setCell ⟨b, 0, none⟩ x).setCell ⟨b, 1, none⟩ y) b t #[x, y] := by
  have := (h.set 0 x).set 1 y
  simpa using this
theorem who_cell {w : World} {a : Option Addr} {l : List Int} {n : Nat} (k : Nat) (hr : RowAt w a (encInts l)) (hn : l.length = n) (h0 : 0 < n) :
    ∃ b off, a = some ⟨b, off, none⟩ ∧ b < w.heap.size ∧ w.cell? ⟨b, off + k % n, none⟩ = some (.int .i64 (whoV l k)) := by
  obtain ⟨b, off, e, hb, hc⟩ := intD hr (k % n) (by rw [hn]; exact Nat.mod_lt _ h0)
  exact ⟨b, off, e, hb, by rw [hc, whoV, hn]⟩

set_option maxRecDepth 100000 in
set_option maxHeartbeats 1600000 in
theorem sendOf_bad (a : Option Addr) (n cap : Nat) (l : List Int) (m d s node value : Int) (w : World) (hn : l.length = n) (hr : RowAt w a (encInts l)) (hc : n ≤ 4611686018427387904) (h : (planF l).1 ≠ 0) :
    Calls Tryz.prog 119 #[.slice a n cap, .agg #[.int .i64 m, .int .i64 d, .int .i64 s], .int .i64 node, .int .i64 value] w fun e w' =>
      e = .returned (.tuple #[.string ⟨#[]⟩, .agg #[.int .i64 (planF l).1, .int .i64 (planF l).2]]) ∧ Below w.heap.size w w' := by
  have hb0 : Below w.heap.size w (w.alloc (.cells #[.int .i64 m, .int .i64 d, .int .i64 s] 84)) := (Below.refl _ _).alloc (Nat.le_refl _) _
  have hb1 := hb0.alloc hb0.size (.cells #[.int .i64 0, .int .i64 0] 33)
  have r0 := Blok.new (w.alloc (.cells #[.int .i64 m, .int .i64 d, .int .i64 s] 84)) 33 #[.int .i64 0, .int .i64 0]
  have KP := Lib.hid (planFault_any a n cap l _ hn (hr.below hb1) hc)
  have h1 : (0 : Int) < ((planF l).1 : Int) := by omega
  have h2 : (((planF l).1 : Int) == 0) = false := by simp; omega
  generalize ((planF l).1 : Int) = c at *
  generalize (planF l).2 = p at *
  clear hn hr h
  rw [show (w.alloc (.cells #[.int .i64 m, .int .i64 d, .int .i64 s] 84)).heap.size = w.heap.size + 1 by simp] at r0
  go_enter Tryz.func119, Tryz.ntmps119
  go_wp2_with fail
  refine KP.out.mono ?_
  rintro e w1 ⟨rfl, hB1⟩
  have hv1 := hb1.trans (hB1.mono hb1.size)
  have r1 := r0.kept hB1
  have f1 := Blok.new w1 33 #[.int .i64 c, .int .i64 p]
  have hv2 := hv1.alloc hv1.size (.cells #[.int .i64 c, .int .i64 p] 33)
  have r2 := r1.alloc (.cells #[.int .i64 c, .int .i64 p] 33)
  have c0 := f1.cell 0 rfl
  have c1 := f1.cell 1 rfl
  have e0 := r2.cell 0 rfl
  have e1 := r2.cell 1 rfl
  have q0 := r2.frozen 0
  have q1 := r2.frozen 1
  go_wp2
  go_region
  all_goals
    go_wp2
    refine bodyPost_ret (v := .tuple #[.string ⟨#[]⟩, .agg #[.int .i64 c, .int .i64 p]]) (by simp [results, Tryz.results119, go_sem, e0, e1]) rfl ?_
    refine ⟨rfl, ?_⟩
    repeat (first | (with_reducible exact hv2) | (with_reducible refine Below.drew ?_) | (with_reducible refine Below.setCell ?_ (by simp <;> omega) _))

set_option maxRecDepth 100000 in
set_option maxHeartbeats 1600000 in
theorem sendOf_view (a : Option Addr) (n cap : Nat) (l : List Int) (m d s node value : Int) (w : World) (hn : l.length = n) (hr : RowAt w a (encInts l)) (hc : n ≤ 4611686018427387904) (h : (planF l).1 = 0) (hV : viewE m d s = 2) :
    Calls Tryz.prog 119 #[.slice a n cap, .agg #[.int .i64 m, .int .i64 d, .int .i64 s], .int .i64 node, .int .i64 value] w fun e w' =>
      e = .returned (.tuple #[.string ⟨#[]⟩, .agg #[.int .i64 2, .int .i64 (-1)]]) ∧ Below w.heap.size w w' := by
  have hb0 : Below w.heap.size w (w.alloc (.cells #[.int .i64 m, .int .i64 d, .int .i64 s] 84)) := (Below.refl _ _).alloc (Nat.le_refl _) _
  have hb1 := hb0.alloc hb0.size (.cells #[.int .i64 0, .int .i64 0] 33)
  have b0 := (Blok.new w 84 #[.int .i64 m, .int .i64 d, .int .i64 s]).alloc (.cells #[.int .i64 0, .int .i64 0] 33)
  have r0 := Blok.new (w.alloc (.cells #[.int .i64 m, .int .i64 d, .int .i64 s] 84)) 33 #[.int .i64 0, .int .i64 0]
  have KP := Lib.hid (planFault_any a n cap l _ hn (hr.below hb1) hc)
  have KV := Lib.hid (fun W : World => viewError_any m d s W)
  have KB := Lib.hid (fun W : World => bare_any 2 W)
  rw [(planF_ok h).1] at KP
  rw [hV] at KV
  have e2 : (((2 : Nat)) : Int) = 2 := rfl
  have e0 : (((0 : Nat), (-1 : Int)).1 : Int) = 0 := rfl
  have e1 : (((0 : Nat), (-1 : Int)).2 : Int) = -1 := rfl
  rw [e0, e1] at KP
  rw [e2] at KV
  clear hn hr h hV e0 e1 e2
  rw [show (w.alloc (.cells #[.int .i64 m, .int .i64 d, .int .i64 s] 84)).heap.size = w.heap.size + 1 by simp] at r0
  go_enter Tryz.func119, Tryz.ntmps119
  go_wp2_with fail
  refine KP.out.mono ?_
  rintro e w1 ⟨rfl, hB1⟩
  have hv1 := hb1.trans (hB1.mono hb1.size)
  have r1 := r0.kept hB1
  have b1 := b0.kept hB1
  have f1 := Blok.new w1 33 #[.int .i64 0, .int .i64 (-1)]
  have hF := hv1.size
  have hv2 := hv1.alloc hv1.size (.cells #[.int .i64 0, .int .i64 (-1)] 33)
  have r2 := r1.alloc (.cells #[.int .i64 0, .int .i64 (-1)] 33)
  have b2 := b1.alloc (.cells #[.int .i64 0, .int .i64 (-1)] 33)
  have b20 := b2.cell 0 rfl
  have b21 := b2.cell 1 rfl
  have b22 := b2.cell 2 rfl
  have c0 := f1.cell 0 rfl
  go_wp2_with fail
  refine (KV.out _).mono ?_
  rintro e w3 ⟨rfl, hB3⟩
  have hv3 := hv2.trans (hB3.mono hv2.size)
  have r3 := r2.kept hB3
  have f3 := f1.kept hB3
  go_wp2_with fail
  refine (KB.out _).mono ?_
  rintro e w4 ⟨rfl, hB4⟩
  have hv4 := hv3.trans (hB4.mono hv3.size)
  have r4 := r3.kept hB4
  have f4 := f3.kept hB4
  have e0 := r4.cell 0 rfl
  have e1 := r4.cell 1 rfl
  have q0 := r4.frozen 0
  have q1 := r4.frozen 1
  have g0 := f4.cell 0 rfl
  have g1 := f4.cell 1 rfl
  have q2 := f4.frozen 0
  have q3 := f4.frozen 1
  have ne1 : ¬ (w.heap.size + 1 = w1.heap.size) := by have := r1.lt; omega
  have ne2 : ¬ (w1.heap.size = w.heap.size + 1) := by have := r1.lt; omega
  go_wp2
  go_region
  all_goals
    go_wp2
    refine bodyPost_ret (v := .tuple #[.string ⟨#[]⟩, .agg #[.int .i64 2, .int .i64 (-1)]]) (by simp [results, Tryz.results119, go_sem, e0, e1]) rfl ?_
    refine ⟨rfl, ?_⟩
    repeat (first | (with_reducible exact hv4) | (with_reducible refine Below.drew ?_) | (with_reducible refine Below.setCell ?_ (by simp <;> omega) _))

set_option maxRecDepth 100000 in
set_option maxHeartbeats 1600000 in
theorem sendOf_late (a : Option Addr) (n cap : Nat) (l : List Int) (m d node value : Int) (s : Nat) (w : World) (hn : l.length = n) (hr : RowAt w a (encInts l)) (hc : n ≤ 4611686018427387904) (h : (planF l).1 = 0) (hV : viewE m d s = 0) (hw : whoV l s ≠ node) :
    Calls Tryz.prog 119 #[.slice a n cap, .agg #[.int .i64 m, .int .i64 d, .int .i64 s], .int .i64 node, .int .i64 value] w fun e w' =>
      e = .returned (.tuple #[.string ⟨#[]⟩, .agg #[.int .i64 9, .int .i64 (-1)]]) ∧ Below w.heap.size w w' := by
  have hb0 : Below w.heap.size w (w.alloc (.cells #[.int .i64 m, .int .i64 d, .int .i64 s] 84)) := (Below.refl _ _).alloc (Nat.le_refl _) _
  have hb1 := hb0.alloc hb0.size (.cells #[.int .i64 0, .int .i64 0] 33)
  have b0 := (Blok.new w 84 #[.int .i64 m, .int .i64 d, .int .i64 s]).alloc (.cells #[.int .i64 0, .int .i64 0] 33)
  have r0 := Blok.new (w.alloc (.cells #[.int .i64 m, .int .i64 d, .int .i64 s] 84)) 33 #[.int .i64 0, .int .i64 0]
  have KP := Lib.hid (planFault_any a n cap l _ hn (hr.below hb1) hc)
  have KV := Lib.hid (fun W : World => viewError_any m d s W)
  have KB := Lib.hid (fun W : World => bare_any 0 W)
  have KB2 := Lib.hid (fun W : World => bare_any 9 W)
  rw [(planF_ok h).1] at KP
  rw [hV] at KV
  have e2 : (((0 : Nat)) : Int) = 0 := rfl
  have e0 : (((0 : Nat), (-1 : Int)).1 : Int) = 0 := rfl
  have e1 : (((0 : Nat), (-1 : Int)).2 : Int) = -1 := rfl
  rw [e0, e1] at KP
  rw [e2] at KV
  have hn0 : 0 < n := by have := (planF_ok h).2.1; omega
  have hnz : ((n : Int) == 0) = false := by simp; omega
  have HQ := Lib.hid (fun (W : World) (hb : Below w.heap.size w W) => who_cell s (hr.below hb) hn hn0)
  have hw1 : (whoV l s != node) = true := by simpa using hw
  have hm2 : 0 ≤ (s : Int) % n := Int.emod_nonneg _ (by omega)
  have hm3 : (s : Int) % n < n := Int.emod_lt_of_pos _ (by omega)
  have hs6 : (s : Int) ≤ 1000000 := by have := (viewE_zero hV).2; simp only [viewB, decide_eq_true_eq] at this; omega
  have hn32 : n ≤ 32 := by have := (planF_ok h).2.2.1; omega
  generalize whoV l s = x at *
  clear hn hr h hV e0 e1 e2 hw
  rw [show (w.alloc (.cells #[.int .i64 m, .int .i64 d, .int .i64 s] 84)).heap.size = w.heap.size + 1 by simp] at r0
  go_enter Tryz.func119, Tryz.ntmps119
  go_wp2_with fail
  refine KP.out.mono ?_
  rintro e w1 ⟨rfl, hB1⟩
  have hv1 := hb1.trans (hB1.mono hb1.size)
  have r1 := r0.kept hB1
  have b1 := b0.kept hB1
  have f1 := Blok.new w1 33 #[.int .i64 0, .int .i64 (-1)]
  have hF := hv1.size
  have hv2 := hv1.alloc hv1.size (.cells #[.int .i64 0, .int .i64 (-1)] 33)
  have r2 := r1.alloc (.cells #[.int .i64 0, .int .i64 (-1)] 33)
  have b2 := b1.alloc (.cells #[.int .i64 0, .int .i64 (-1)] 33)
  have b20 := b2.cell 0 rfl
  have b21 := b2.cell 1 rfl
  have b22 := b2.cell 2 rfl
  have c0 := f1.cell 0 rfl
  go_wp2_with fail
  refine (KV.out _).mono ?_
  rintro e w3 ⟨rfl, hB3⟩
  have hv3 := hv2.trans (hB3.mono hv2.size)
  have r3 := r2.kept hB3
  have f3 := f1.kept hB3
  have b3 := b2.kept hB3
  go_wp2_with fail
  refine (KB.out _).mono ?_
  rintro e w4 ⟨rfl, hB4⟩
  have hv4 := hv3.trans (hB4.mono hv3.size)
  have r4 := r3.kept hB4
  have f4 := f3.kept hB4
  have b4 := b3.kept hB4
  have hv5 := (hv4.setCell (p := ⟨w1.heap.size, 0, none⟩) hF (.int .i64 0)).setCell (p := ⟨w1.heap.size, 1, none⟩) hF (.int .i64 (-1))
  have f5 := f4.two (.int .i64 0) (.int .i64 (-1))
  have rne : w.heap.size + 1 ≠ w1.heap.size := by have := r1.lt; omega
  have bne : w.heap.size ≠ w1.heap.size := by have := b1.lt; omega
  have r5 := (r4.setOther 0 (.int .i64 0) rne).setOther 1 (.int .i64 (-1)) rne
  have b5 := (b4.setOther 0 (.int .i64 0) bne).setOther 1 (.int .i64 (-1)) bne
  have q2 := f4.frozen 0
  have q3 := f4.frozen 1
  have g0 := f4.cell 0 rfl
  have g1 := f4.cell 1 rfl
  obtain ⟨b, off, rfl, hbl, u0⟩ := HQ.out _ hv5
  have d0 := f5.cell 0 rfl
  have y2 := b5.cell 2 rfl
  go_wp2_with fail
  refine (KB2.out _).mono ?_
  rintro e w6 ⟨rfl, hB6⟩
  have hv6 := hv5.trans (hB6.mono hv5.size)
  have r6 := r5.kept hB6
  have f6 := f5.kept hB6
  have e0 := r6.cell 0 rfl
  have e1 := r6.cell 1 rfl
  have q0 := r6.frozen 0
  have q1 := r6.frozen 1
  have g0 := f6.cell 0 rfl
  have g1 := f6.cell 1 rfl
  have q2 := f6.frozen 0
  have q3 := f6.frozen 1
  go_wp2
  go_region
  all_goals
    go_wp2
    refine bodyPost_ret (v := .tuple #[.string ⟨#[]⟩, .agg #[.int .i64 9, .int .i64 (-1)]]) (by simp [results, Tryz.results119, go_sem, e0, e1]) rfl ?_
    refine ⟨rfl, ?_⟩
    repeat (first | (with_reducible exact hv6) | (with_reducible refine Below.drew ?_) | (with_reducible refine Below.setCell ?_ (by simp <;> omega) _))
set_option maxRecDepth 100000 in
set_option maxHeartbeats 1600000 in
theorem sendOf_has (a : Option Addr) (n cap : Nat) (l : List Int) (m pb s : Nat) (d node value ec : Int) (tx : List UInt8) (w : World) (hn : l.length = n) (hr : RowAt w a (encInts l)) (hc : n ≤ 4611686018427387904) (h : (planF l).1 = 0) (hV : viewE m d s = 0) (hw : whoV l s = node)
    (_hm : m < 65536) (hpb : bitOf node = pb) (hH : hasB m node = true)
    (KTX : ∀ W : World, Calls Tryz.prog 172 #[.agg #[.int .i64 node, .int .i64 (m : Int), .int .i64 d, .int .i64 s, .int .i64 value]] W fun e w' => e = .returned (.tuple #[.string ⟨tx.toArray⟩, .int .i64 ec]) ∧ Below W.heap.size W w') :
    Calls Tryz.prog 119 #[.slice a n cap, .agg #[.int .i64 m, .int .i64 d, .int .i64 s], .int .i64 node, .int .i64 value] w fun e w' =>
      e = .returned (.tuple #[.string ⟨tx.toArray⟩, .agg #[.int .i64 ec, .int .i64 (-1)]]) ∧ Below w.heap.size w w' := by
  have hb0 : Below w.heap.size w (w.alloc (.cells #[.int .i64 m, .int .i64 d, .int .i64 s] 84)) := (Below.refl _ _).alloc (Nat.le_refl _) _
  have hb1 := hb0.alloc hb0.size (.cells #[.int .i64 0, .int .i64 0] 33)
  have b0 := (Blok.new w 84 #[.int .i64 m, .int .i64 d, .int .i64 s]).alloc (.cells #[.int .i64 0, .int .i64 0] 33)
  have r0 := Blok.new (w.alloc (.cells #[.int .i64 m, .int .i64 d, .int .i64 s] 84)) 33 #[.int .i64 0, .int .i64 0]
  have KP := Lib.hid (planFault_any a n cap l _ hn (hr.below hb1) hc)
  have KV := Lib.hid (fun W : World => viewError_any m d s W)
  have KB := Lib.hid (fun W : World => bare_any 0 W)
  have KB2 := Lib.hid (fun W : World => bare_any ec W)
  have KF := Lib.hid KTX
  rw [(planF_ok h).1] at KP
  rw [hV] at KV
  have e2 : (((0 : Nat)) : Int) = 0 := rfl
  have e0 : (((0 : Nat), (-1 : Int)).1 : Int) = 0 := rfl
  have e1 : (((0 : Nat), (-1 : Int)).2 : Int) = -1 := rfl
  rw [e0, e1] at KP
  rw [e2] at KV
  have hnd : nodeB node = true := by rw [← hw]; exact (planF_ok h).2.2.2 _ (whoV_mem l _ (planF_ok h).2.1)
  have KH := Lib.hid (fun W : World => refHas_any m node W)
  rw [hH] at KH
  have KPW := Lib.hid (fun W : World => power_who node W hnd)
  rw [hpb] at KPW
  have hn0 : 0 < n := by have := (planF_ok h).2.1; omega
  have hnz : ((n : Int) == 0) = false := by simp; omega
  have HQ := Lib.hid (fun (W : World) (hb : Below w.heap.size w W) => who_cell s (hr.below hb) hn hn0)
  rw [hw] at HQ
  have hm2 : 0 ≤ (s : Int) % n := Int.emod_nonneg _ (by omega)
  have hm3 : (s : Int) % n < n := Int.emod_lt_of_pos _ (by omega)
  have hs6 : (s : Int) ≤ 1000000 := by have := (viewE_zero hV).2; simp only [viewB, decide_eq_true_eq] at this; omega
  have hn32 : n ≤ 32 := by have := (planF_ok h).2.2.1; omega
  have hpl : 1 ≤ pb ∧ pb ≤ 65536 := by rw [← hpb]; have := bitOf_lt hnd; have h3 := Nat.two_pow_pos (node.toNat - 1); unfold bitOf at *; omega
  clear hn hr h hV e0 e1 e2 hw hH hnd hpb KTX
  rw [show (w.alloc (.cells #[.int .i64 m, .int .i64 d, .int .i64 s] 84)).heap.size = w.heap.size + 1 by simp] at r0
  go_enter Tryz.func119, Tryz.ntmps119
  go_wp2_with fail
  refine KP.out.mono ?_
  rintro e w1 ⟨rfl, hB1⟩
  have hv1 := hb1.trans (hB1.mono hb1.size)
  have r1 := r0.kept hB1
  have b1 := b0.kept hB1
  have f1 := Blok.new w1 33 #[.int .i64 0, .int .i64 (-1)]
  have hF := hv1.size
  have hv2 := hv1.alloc hv1.size (.cells #[.int .i64 0, .int .i64 (-1)] 33)
  have r2 := r1.alloc (.cells #[.int .i64 0, .int .i64 (-1)] 33)
  have b2 := b1.alloc (.cells #[.int .i64 0, .int .i64 (-1)] 33)
  have b20 := b2.cell 0 rfl
  have b21 := b2.cell 1 rfl
  have b22 := b2.cell 2 rfl
  have c0 := f1.cell 0 rfl
  go_wp2_with fail
  refine (KV.out _).mono ?_
  rintro e w3 ⟨rfl, hB3⟩
  have hv3 := hv2.trans (hB3.mono hv2.size)
  have r3 := r2.kept hB3
  have f3 := f1.kept hB3
  have b3 := b2.kept hB3
  go_wp2_with fail
  refine (KB.out _).mono ?_
  rintro e w4 ⟨rfl, hB4⟩
  have hv4 := hv3.trans (hB4.mono hv3.size)
  have r4 := r3.kept hB4
  have f4 := f3.kept hB4
  have b4 := b3.kept hB4
  have hv5 := (hv4.setCell (show w.heap.size ≤ (⟨w1.heap.size, 0, none⟩ : Addr).block from hF) (.int .i64 0)).setCell (show w.heap.size ≤ (⟨w1.heap.size, 1, none⟩ : Addr).block from hF) (.int .i64 (-1))
  have f5 := f4.two (.int .i64 0) (.int .i64 (-1))
  have rne : w.heap.size + 1 ≠ w1.heap.size := by have := r1.lt; omega
  have bne : w.heap.size ≠ w1.heap.size := by have := b1.lt; omega
  have r5 := (r4.setOther 0 (.int .i64 0) rne).setOther 1 (.int .i64 (-1)) rne
  have b5 := (b4.setOther 0 (.int .i64 0) bne).setOther 1 (.int .i64 (-1)) bne
  have q2 := f4.frozen 0
  have q3 := f4.frozen 1
  have g0 := f4.cell 0 rfl
  have g1 := f4.cell 1 rfl
  obtain ⟨b, off, rfl, hbl, u0⟩ := HQ.out _ hv5
  have d0 := f5.cell 0 rfl
  have y0 := b5.cell 0 rfl
  have y1 := b5.cell 1 rfl
  have y2 := b5.cell 2 rfl
  go_wp2_with fail
  refine (KH.out _).mono ?_
  rintro e w6 ⟨rfl, rfl⟩
  generalize hW5 : (w4.setCell ⟨w1.heap.size, 0, none⟩ (.int .i64 0)).setCell ⟨w1.heap.size, 1, none⟩ (.int .i64 (-1)) = w5 at *
  clear hW5 hbl u0 d0 HQ b20 b21 b22 c0 g0 g1 q2 q3
  go_wp2_with fail
  refine (KF.out _).mono ?_
  rintro e w7 ⟨rfl, hB7⟩
  have hv7 := hv5.trans (hB7.mono hv5.size)
  have r7 := r5.kept hB7
  go_wp2_with fail
  refine (KB2.out _).mono ?_
  rintro e w8 ⟨rfl, hB8⟩
  have hv8 := hv7.trans (hB8.mono hv7.size)
  have r8 := r7.kept hB8
  have e0 := r8.cell 0 rfl
  have e1 := r8.cell 1 rfl
  have q0 := r8.frozen 0
  have q1 := r8.frozen 1
  go_wp2
  refine bodyPost_ret (v := .tuple #[.string ⟨tx.toArray⟩, .agg #[.int .i64 ec, .int .i64 (-1)]]) (by simp [results, Tryz.results119, go_sem, e0, e1]) rfl ?_
  refine ⟨rfl, ?_⟩
  repeat (first | (with_reducible exact hv8) | (with_reducible refine Below.drew ?_) | (with_reducible refine Below.setCell ?_ (by simp <;> omega) _))

set_option maxRecDepth 100000 in
set_option maxHeartbeats 1600000 in
theorem sendOf_new (a : Option Addr) (n cap : Nat) (l : List Int) (m pb s : Nat) (d node value ec : Int) (tx : List UInt8) (w : World) (hn : l.length = n) (hr : RowAt w a (encInts l)) (hc : n ≤ 4611686018427387904) (h : (planF l).1 = 0) (hV : viewE m d s = 0) (hw : whoV l s = node)
    (hm : m < 65536) (hpb : bitOf node = pb) (hH : hasB m node = false)
    (KTX : ∀ W : World, Calls Tryz.prog 172 #[.agg #[.int .i64 node, .int .i64 ((m : Int) + (pb : Int)), .int .i64 d, .int .i64 s, .int .i64 value]] W fun e w' => e = .returned (.tuple #[.string ⟨tx.toArray⟩, .int .i64 ec]) ∧ Below W.heap.size W w') :
    Calls Tryz.prog 119 #[.slice a n cap, .agg #[.int .i64 m, .int .i64 d, .int .i64 s], .int .i64 node, .int .i64 value] w fun e w' =>
      e = .returned (.tuple #[.string ⟨tx.toArray⟩, .agg #[.int .i64 ec, .int .i64 (-1)]]) ∧ Below w.heap.size w w' := by
  have hb0 : Below w.heap.size w (w.alloc (.cells #[.int .i64 m, .int .i64 d, .int .i64 s] 84)) := (Below.refl _ _).alloc (Nat.le_refl _) _
  have hb1 := hb0.alloc hb0.size (.cells #[.int .i64 0, .int .i64 0] 33)
  have b0 := (Blok.new w 84 #[.int .i64 m, .int .i64 d, .int .i64 s]).alloc (.cells #[.int .i64 0, .int .i64 0] 33)
  have r0 := Blok.new (w.alloc (.cells #[.int .i64 m, .int .i64 d, .int .i64 s] 84)) 33 #[.int .i64 0, .int .i64 0]
  have KP := Lib.hid (planFault_any a n cap l _ hn (hr.below hb1) hc)
  have KV := Lib.hid (fun W : World => viewError_any m d s W)
  have KB := Lib.hid (fun W : World => bare_any 0 W)
  have KB2 := Lib.hid (fun W : World => bare_any ec W)
  have KF := Lib.hid KTX
  rw [(planF_ok h).1] at KP
  rw [hV] at KV
  have e2 : (((0 : Nat)) : Int) = 0 := rfl
  have e0 : (((0 : Nat), (-1 : Int)).1 : Int) = 0 := rfl
  have e1 : (((0 : Nat), (-1 : Int)).2 : Int) = -1 := rfl
  rw [e0, e1] at KP
  rw [e2] at KV
  have hnd : nodeB node = true := by rw [← hw]; exact (planF_ok h).2.2.2 _ (whoV_mem l _ (planF_ok h).2.1)
  have KH := Lib.hid (fun W : World => refHas_any m node W)
  rw [hH] at KH
  have KPW := Lib.hid (fun W : World => power_who node W hnd)
  rw [hpb] at KPW
  have hn0 : 0 < n := by have := (planF_ok h).2.1; omega
  have hnz : ((n : Int) == 0) = false := by simp; omega
  have HQ := Lib.hid (fun (W : World) (hb : Below w.heap.size w W) => who_cell s (hr.below hb) hn hn0)
  rw [hw] at HQ
  have hm2 : 0 ≤ (s : Int) % n := Int.emod_nonneg _ (by omega)
  have hm3 : (s : Int) % n < n := Int.emod_lt_of_pos _ (by omega)
  have hs6 : (s : Int) ≤ 1000000 := by have := (viewE_zero hV).2; simp only [viewB, decide_eq_true_eq] at this; omega
  have hn32 : n ≤ 32 := by have := (planF_ok h).2.2.1; omega
  have hpl : 1 ≤ pb ∧ pb ≤ 65536 := by rw [← hpb]; have := bitOf_lt hnd; have h3 := Nat.two_pow_pos (node.toNat - 1); unfold bitOf at *; omega
  clear hn hr h hV e0 e1 e2 hw hH hnd hpb KTX
  rw [show (w.alloc (.cells #[.int .i64 m, .int .i64 d, .int .i64 s] 84)).heap.size = w.heap.size + 1 by simp] at r0
  go_enter Tryz.func119, Tryz.ntmps119
  go_wp2_with fail
  refine KP.out.mono ?_
  rintro e w1 ⟨rfl, hB1⟩
  have hv1 := hb1.trans (hB1.mono hb1.size)
  have r1 := r0.kept hB1
  have b1 := b0.kept hB1
  have f1 := Blok.new w1 33 #[.int .i64 0, .int .i64 (-1)]
  have hF := hv1.size
  have hv2 := hv1.alloc hv1.size (.cells #[.int .i64 0, .int .i64 (-1)] 33)
  have r2 := r1.alloc (.cells #[.int .i64 0, .int .i64 (-1)] 33)
  have b2 := b1.alloc (.cells #[.int .i64 0, .int .i64 (-1)] 33)
  have b20 := b2.cell 0 rfl
  have b21 := b2.cell 1 rfl
  have b22 := b2.cell 2 rfl
  have c0 := f1.cell 0 rfl
  go_wp2_with fail
  refine (KV.out _).mono ?_
  rintro e w3 ⟨rfl, hB3⟩
  have hv3 := hv2.trans (hB3.mono hv2.size)
  have r3 := r2.kept hB3
  have f3 := f1.kept hB3
  have b3 := b2.kept hB3
  go_wp2_with fail
  refine (KB.out _).mono ?_
  rintro e w4 ⟨rfl, hB4⟩
  have hv4 := hv3.trans (hB4.mono hv3.size)
  have r4 := r3.kept hB4
  have f4 := f3.kept hB4
  have b4 := b3.kept hB4
  have hv5 := (hv4.setCell (show w.heap.size ≤ (⟨w1.heap.size, 0, none⟩ : Addr).block from hF) (.int .i64 0)).setCell (show w.heap.size ≤ (⟨w1.heap.size, 1, none⟩ : Addr).block from hF) (.int .i64 (-1))
  have f5 := f4.two (.int .i64 0) (.int .i64 (-1))
  have rne : w.heap.size + 1 ≠ w1.heap.size := by have := r1.lt; omega
  have bne : w.heap.size ≠ w1.heap.size := by have := b1.lt; omega
  have r5 := (r4.setOther 0 (.int .i64 0) rne).setOther 1 (.int .i64 (-1)) rne
  have b5 := (b4.setOther 0 (.int .i64 0) bne).setOther 1 (.int .i64 (-1)) bne
  have q2 := f4.frozen 0
  have q3 := f4.frozen 1
  have g0 := f4.cell 0 rfl
  have g1 := f4.cell 1 rfl
  obtain ⟨b, off, rfl, hbl, u0⟩ := HQ.out _ hv5
  have d0 := f5.cell 0 rfl
  have y0 := b5.cell 0 rfl
  have y1 := b5.cell 1 rfl
  have y2 := b5.cell 2 rfl
  go_wp2_with fail
  refine (KH.out _).mono ?_
  rintro e w6 ⟨rfl, rfl⟩
  generalize hW5 : (w4.setCell ⟨w1.heap.size, 0, none⟩ (.int .i64 0)).setCell ⟨w1.heap.size, 1, none⟩ (.int .i64 (-1)) = w5 at *
  clear hW5 hbl u0 d0 HQ b20 b21 b22 c0 g0 g1 q2 q3
  have qb := b5.frozen 0
  have hwr : IntKind.i64.wrap ((m : Int) + pb) = (m : Int) + pb := IntWalk.i64_in _ (by omega)
  have rn0 : w.heap.size + 1 ≠ w.heap.size := by omega
  have hv6 := (hv5.setCell (show w.heap.size ≤ (⟨w.heap.size, 0, none⟩ : Addr).block from Nat.le_refl _) (.int .i64 ((m : Int) + pb))).drew
  have b6 : Blok (w5.setCell ⟨w.heap.size, 0, none⟩ (.int .i64 ((m : Int) + pb))).drew w.heap.size 84 #[.int .i64 ((m : Int) + pb), .int .i64 d, .int .i64 s] := b5.set 0 (.int .i64 ((m : Int) + pb))
  have r6 : Blok (w5.setCell ⟨w.heap.size, 0, none⟩ (.int .i64 ((m : Int) + pb))).drew (w.heap.size + 1) 33 #[.int .i64 0, .int .i64 0] := r5.setOther 0 (.int .i64 ((m : Int) + pb)) rn0
  go_wp2
  go_region_with (go_at_call 112; (with_reducible refine (KPW.out _).mono ?_); rintro e w6 ⟨rfl, rfl⟩)
  all_goals
    try simp only [hwr]
    generalize (w5.setCell ⟨w.heap.size, 0, none⟩ (.int .i64 ((m : Int) + pb))).drew = w6 at *
    have z0 := b6.cell 0 rfl
    have z1 := b6.cell 1 rfl
    have z2 := b6.cell 2 rfl
    clear y0 y1 y2
    go_wp2_with fail
    refine (KF.out _).mono ?_
    rintro e w7 ⟨rfl, hB7⟩
    have hv7 := hv6.trans (hB7.mono hv6.size)
    have r7 := r6.kept hB7
    go_wp2_with fail
    refine (KB2.out _).mono ?_
    rintro e w8 ⟨rfl, hB8⟩
    have hv8 := hv7.trans (hB8.mono hv7.size)
    have r8 := r7.kept hB8
    have e0 := r8.cell 0 rfl
    have e1 := r8.cell 1 rfl
    have q0 := r8.frozen 0
    have q1 := r8.frozen 1
    go_wp2
    refine bodyPost_ret (v := .tuple #[.string ⟨tx.toArray⟩, .agg #[.int .i64 ec, .int .i64 (-1)]]) (by simp [results, Tryz.results119, go_sem, e0, e1]) rfl ?_
    refine ⟨rfl, ?_⟩
    repeat (first | (with_reducible exact hv8) | (with_reducible refine Below.drew ?_) | (with_reducible refine Below.setCell ?_ (by simp <;> omega) _))


theorem sendOf_any (a : Option Addr) (n cap : Nat) (l : List Int) (m d s node value : Int) (w : World) (hn : l.length = n) (hr : RowAt w a (encInts l)) (hc : n ≤ 4611686018427387904) :
    Calls Tryz.prog 119 #[.slice a n cap, .agg #[.int .i64 m, .int .i64 d, .int .i64 s], .int .i64 node, .int .i64 value] w fun e w' =>
      e = .returned (.tuple #[.string ⟨(sendT l m d s node value).toArray⟩, .agg #[.int .i64 (sendF l m d s node value).1, .int .i64 (sendF l m d s node value).2]]) ∧ Below w.heap.size w w' := by
  by_cases h : (planF l).1 = 0
  · by_cases hV : viewE m d s = 0
    · have hM : (memRF l m d s).1 = 0 := by rw [memRF, if_pos h, hV]
      obtain ⟨hcm, hvd⟩ := viewE_zero hV
      obtain ⟨k, rfl, hk⟩ := crew_nat hcm
      obtain ⟨q, rfl⟩ : ∃ q : Nat, s = q := ⟨s.toNat, by simp only [viewB, decide_eq_true_eq] at hvd; omega⟩
      by_cases hw : whoV l q = node
      · have hF : sendF l k d q node value = (frameE (sendFrm l k d q node value), -1) := by rw [sendF, if_pos hM, if_pos (by rw [Int.toNat_natCast]; exact hw)]
        have hT : sendT l k d q node value = makeF (sendFrm l k d q node value) := by rw [sendT, if_pos ⟨hM, by rw [Int.toNat_natCast]; exact hw⟩]
        have hnd : nodeB node = true := by rw [← hw]; exact (planF_ok h).2.2.2 _ (whoV_mem l _ (planF_ok h).2.1)
        rw [hF, hT]
        have hS : sendFrm l k d q node value = ⟨node, ((k ||| bitOf node : Nat) : Int), d, q, value⟩ := rfl
        cases hH : hasB k node
        · have e := (step_new hk hnd hH).1
          have e' : ((k ||| bitOf node : Nat) : Int) = (k : Int) + (bitOf node : Nat) := by rw [e]; push_cast; rfl
          rw [hS, e']
          exact sendOf_new a n cap l k _ q d node value _ _ w hn hr hc h hV hw hk rfl hH (fun W => frameText_any node _ d q value W)
        · have e := (step_has hk hnd hH).1
          rw [hS, e]
          exact sendOf_has a n cap l k _ q d node value _ _ w hn hr hc h hV hw hk rfl hH (fun W => frameText_any node _ d q value W)
      · have hF : sendF l k d q node value = (9, -1) := by rw [sendF, if_pos hM, if_neg (by rw [Int.toNat_natCast]; exact hw)]
        have hT : sendT l k d q node value = [] := by rw [sendT, if_neg (fun e => hw (by have := e.2; rwa [Int.toNat_natCast] at this))]
        rw [hF, hT]
        exact sendOf_late a n cap l k d node value q w hn hr hc h hV hw
    · have hM : memRF l m d s = (2, -1) := by rw [memRF, if_pos h, viewE_two hV]
      have hF : sendF l m d s node value = (2, -1) := by rw [sendF, hM]; rfl
      have hT : sendT l m d s node value = [] := by rw [sendT, hM]; rfl
      rw [hF, hT]
      exact sendOf_view a n cap l m d s node value w hn hr hc h (viewE_two hV)
  · have hM : memRF l m d s = planF l := by rw [memRF, if_neg h]
    have hF : sendF l m d s node value = planF l := by rw [sendF, hM, if_neg h]
    have hT : sendT l m d s node value = [] := by rw [sendT, hM, if_neg (fun e => h e.1)]
    rw [hF, hT]
    exact sendOf_bad a n cap l m d s node value w hn hr hc h
end Go.Proofs.YtoekajpjfoolpaaGreatDoor
