/- member.Step. -/
import Derived.Test.YtbfocagicagehaaDoorMember
import Derived.Test.YtbfocagicagehaaDoorPlanPlain
namespace Go.Proofs.YtbfocagicagehaaDoor
open Go.RowKit

/-- A block of cells. -/
def Blok (W : World) (b : Nat) (t : TypeId) (cs : Array Value) : Prop := W.heap[b]? = some (.cells cs t (0, 0))
theorem Blok.new (W : World) (t : TypeId) (cs : Array Value) : Blok (W.alloc (.cells cs t)) W.heap.size t cs := World.alloc_heap_new W _
theorem Blok.lt {W : World} {b : Nat} {t : TypeId} {cs : Array Value} (h : Blok W b t cs) : b < W.heap.size := (Array.getElem?_eq_some_iff.1 h).1
theorem Blok.kept {W W' : World} {b : Nat} {t : TypeId} {cs : Array Value} (h : Blok W b t cs) (hb : Below W.heap.size W W') : Blok W' b t cs := (hb.block b h.lt).trans h
theorem Blok.alloc {W : World} {b : Nat} {t : TypeId} {cs : Array Value} (h : Blok W b t cs) (o : Obj) : Blok (W.alloc o) b t cs := h.kept ((Below.refl _ _).alloc (Nat.le_refl _) _)
theorem Blok.cell {W : World} {b : Nat} {t : TypeId} {cs : Array Value} (h : Blok W b t cs) (i : Nat) {v : Value} (hv : cs[i]? = some v) : W.cell? ⟨b, i, none⟩ = some v := by
  simp only [World.cell?, show W.heap[b]? = _ from h]; exact hv
theorem Blok.frozen {W : World} {b : Nat} {t : TypeId} {cs : Array Value} (h : Blok W b t cs) (i : Nat) : W.frozen? ⟨b, i, none⟩ = false := by simp [World.frozen?, show W.heap[b]? = _ from h]

set_option maxRecDepth 100000 in
theorem run_view_eql (W : World) (a b c a' b' c' : Int) : (binOp .eql 42 (.agg #[.int .i64 a, .int .i64 b, .int .i64 c]) (.agg #[.int .i64 a', .int .i64 b', .int .i64 c'])).run Tryd.prog W = .ok (.bool (a == a' && (b == b' && c == c'))) W := by
  cases h1 : (a == a') <;> cases h2 : (b == b') <;> cases h3 : (c == c')
  all_goals go_simp

/-- Is a frame good for a view? -/
def stepB (who : Int) (m : Nat) (d s : Int) (t : List UInt8) : Bool := decide ((frameF t).1 = 0 ∧ (frameF t).2.frm = who ∧ (frameF t).2.mem = ((m ||| bitOf who : Nat) : Int) ∧ (frameF t).2.mode = d ∧ (frameF t).2.slot = s)

set_option maxRecDepth 100000 in
set_option maxHeartbeats 1600000 in
theorem step_heard (ea : Nat → Addr) (a : Option Addr) (n cap : Nat) (l : List Int) (m : Nat) (d s : Int) (t : List UInt8) (w : World) (hg : Glob w ea [1, 2, 3, 4, 5, 7, 8]) (hT : TxtEnv w) (hn : l.length = n) (hr : RowAt w a (encInts l)) (hc : n ≤ 4611686018427387904) (ht : t.length ≤ 4294967280)
    (h : (memRF l m d s).1 = 0) (hs : s < 1000000) (hG : stepB (whoV l s.toNat) m d s t = true) :
    Calls Tryd.prog 19 #[.slice a n cap, .agg #[.int .i64 m, .int .i64 d, .int .i64 s], .string ⟨t.toArray⟩] w fun e w' =>
      e = .returned (.tuple #[.agg #[.int .i64 ((m ||| bitOf (whoV l s.toNat) : Nat) : Int), .int .i64 d, .int .i64 (s + 1)], .agg #[.int .i64 s, .int .i64 (whoV l s.toNat), .bool true, .int .i64 (frameF t).2.value], .nilIface]) ∧ Below w.heap.size w w' := by
  obtain ⟨hp, hv, hM, hR⟩ := memRF_ok h
  obtain ⟨hcm, hvd⟩ := viewE_zero hv
  have hmlt : m < 65536 := by simp only [crewB, decide_eq_true_eq] at hcm; omega
  have hs0 : 0 ≤ s := by simp only [viewB, decide_eq_true_eq] at hvd; omega
  have hnd : nodeB (whoV l s.toNat) = true := (planF_ok hp).2.2.2 _ (whoV_mem l _ (planF_ok hp).2.1)
  have KR := Lib.hid (fun (W : World) (h : Below w.heap.size w W) => memRight_any ea a n cap l m d s W ((hg.below h).sub (by simp)) hn (hr.below h) hc)
  rw [hM] at KR
  simp only [if_true] at KR
  have KW := Lib.hid (fun (W : World) => with_any m d s (whoV l s.toNat) W hmlt hnd)
  have KF := Lib.hid (fun (W : World) (h : Below w.heap.size w W) => fread_any ea t W ((hg.below h).sub (by simp)) (hT.below h) ht)
  simp only [stepB, decide_eq_true_eq] at hG
  obtain ⟨g0, g1, g2, g3, g4⟩ := hG
  rw [g0, errV_zero] at KF
  simp only [Frm.arr, g1, g2, g3, g4] at KF
  have hq := run_view_eql
  have HQ : ∀ W : World, (binOp .eql 42 (.agg #[.int .i64 ((m ||| bitOf (whoV l s.toNat) : Nat) : Int), .int .i64 d, .int .i64 s]) (.agg #[.int .i64 ((m ||| bitOf (whoV l s.toNat) : Nat) : Int), .int .i64 d, .int .i64 s])).run Tryd.prog W = .ok (.bool true) W := fun W => by
    rw [run_view_eql]; simp
  have hb0 : Below w.heap.size w (((w.alloc (.cells #[.int .i64 m, .int .i64 d, .int .i64 s] 42)).alloc (.cells #[.int .i64 0, .int .i64 0, .int .i64 0] 42)).alloc (.cells #[.int .i64 0, .int .i64 0, .bool false, .int .i64 0] 38)) := (((Below.refl _ _).alloc (Nat.le_refl _) _).alloc (by simp) _).alloc (by simp; omega) _
  have hsl : decide (1000000 ≤ s) = false := by simpa using hs
  have hw : wrap64 (s + 1) = s + 1 := by unfold wrap64; omega
  generalize (frameF t).2.value = val at *
  generalize whoV l s.toNat = who at *
  generalize m ||| bitOf who = M at *
  clear hg hT hn hr h hp hv hM hR hcm hvd hnd g0 g1 g2 g3 g4 hq hs
  go_enter Tryd.func19, Tryd.ntmps19
  go_wp2_with fail
  have b0 : Blok (((w.alloc (.cells #[.int .i64 m, .int .i64 d, .int .i64 s] 42)).alloc (.cells #[.int .i64 0, .int .i64 0, .int .i64 0] 42)).alloc (.cells #[.int .i64 0, .int .i64 0, .bool false, .int .i64 0] 38)) w.heap.size 42 #[.int .i64 m, .int .i64 d, .int .i64 s] := ((Blok.new w _ _).alloc _).alloc _
  have b1 : Blok (((w.alloc (.cells #[.int .i64 m, .int .i64 d, .int .i64 s] 42)).alloc (.cells #[.int .i64 0, .int .i64 0, .int .i64 0] 42)).alloc (.cells #[.int .i64 0, .int .i64 0, .bool false, .int .i64 0] 38)) (w.heap.size + 1) 42 #[.int .i64 0, .int .i64 0, .int .i64 0] := by
    have := (Blok.new (w.alloc (.cells #[.int .i64 m, .int .i64 d, .int .i64 s] 42)) 42 #[.int .i64 0, .int .i64 0, .int .i64 0]).alloc (.cells #[.int .i64 0, .int .i64 0, .bool false, .int .i64 0] 38)
    rwa [World.size_alloc] at this
  have b2 : Blok (((w.alloc (.cells #[.int .i64 m, .int .i64 d, .int .i64 s] 42)).alloc (.cells #[.int .i64 0, .int .i64 0, .int .i64 0] 42)).alloc (.cells #[.int .i64 0, .int .i64 0, .bool false, .int .i64 0] 38)) (w.heap.size + 1 + 1) 38 #[.int .i64 0, .int .i64 0, .bool false, .int .i64 0] := by
    have := Blok.new ((w.alloc (.cells #[.int .i64 m, .int .i64 d, .int .i64 s] 42)).alloc (.cells #[.int .i64 0, .int .i64 0, .int .i64 0] 42)) 38 #[.int .i64 0, .int .i64 0, .bool false, .int .i64 0]
    rwa [World.size_alloc, World.size_alloc] at this
  generalize hW0 : (((w.alloc (.cells #[.int .i64 m, .int .i64 d, .int .i64 s] 42)).alloc (.cells #[.int .i64 0, .int .i64 0, .int .i64 0] 42)).alloc (.cells #[.int .i64 0, .int .i64 0, .bool false, .int .i64 0] 38)) = W0 at *
  clear hW0
  refine (KR.out _ hb0).mono ?_
  rintro e w1 ⟨v, rfl, hv, hb1⟩
  obtain rfl : v = .nilIface := hv.nil
  have hv1 := hb0.trans (hb1.mono hb0.size)
  have b0 := b0.kept hb1
  have b1 := b1.kept hb1
  have b2 := b2.kept hb1
  have c0 := b0.cell 0 rfl
  have c1 := b0.cell 1 rfl
  have c2 := b0.cell 2 rfl
  have c3 := (b0.alloc (.cells #[.int .i64 s, .int .i64 who, .bool false, .int .i64 0] 38)).cell 0 rfl
  have c4 := (b0.alloc (.cells #[.int .i64 s, .int .i64 who, .bool false, .int .i64 0] 38)).cell 1 rfl
  have c5 := (b0.alloc (.cells #[.int .i64 s, .int .i64 who, .bool false, .int .i64 0] 38)).cell 2 rfl
  clear hb1 hv
  go_wp2_with fail
  refine (KW.out _).mono ?_
  rintro e w2 ⟨rfl, hb2⟩
  have b3 := (Blok.new w1 38 #[.int .i64 s, .int .i64 who, .bool false, .int .i64 0]).kept hb2
  have hb12 : Below w1.heap.size w1 w2 := ((Below.refl _ _).alloc (Nat.le_refl _) _).trans (hb2.mono (by simp))
  have hE := b2.lt
  have b0 := b0.kept hb12
  have b1 := b1.kept hb12
  have b2 := b2.kept hb12
  have hv2 := hv1.trans (hb12.mono hv1.size)
  clear hb2 hb12 c0 c1 c2 c3 c4 c5
  generalize w1.heap.size = E at *
  go_wp2_with fail
  have hvN : Below w.heap.size w (w2.alloc (.cells #[.int .i64 M, .int .i64 d, .int .i64 s] 42)) := hv2.alloc hv2.size _
  refine (KF.out _ hvN).mono ?_
  rintro e w3 ⟨rfl, hb3⟩
  have b4 := (Blok.new w2 42 #[.int .i64 M, .int .i64 d, .int .i64 s]).kept hb3
  have hv3 := hvN.trans (hb3.mono hvN.size)
  have hN := b3.lt
  have b0 := (b0.alloc _).kept hb3
  have b1 := (b1.alloc _).kept hb3
  have b2 := (b2.alloc _).kept hb3
  have b3 := (b3.alloc _).kept hb3
  clear hb3 hvN hv2 hv1
  generalize w2.heap.size = N at *
  have hF := b4.lt
  have c5 := (b4.alloc (.cells #[.int .i64 who, .int .i64 M, .int .i64 d, .int .i64 s, .int .i64 val] 75)).cell 0 rfl
  have c6 := (b4.alloc (.cells #[.int .i64 who, .int .i64 M, .int .i64 d, .int .i64 s, .int .i64 val] 75)).cell 1 rfl
  have c7 := (b4.alloc (.cells #[.int .i64 who, .int .i64 M, .int .i64 d, .int .i64 s, .int .i64 val] 75)).cell 2 rfl
  go_wp2
  have b5 := Blok.new w3 75 #[.int .i64 who, .int .i64 M, .int .i64 d, .int .i64 s, .int .i64 val]
  have b0 := b0.alloc (.cells #[.int .i64 who, .int .i64 M, .int .i64 d, .int .i64 s, .int .i64 val] 75)
  have b1 := b1.alloc (.cells #[.int .i64 who, .int .i64 M, .int .i64 d, .int .i64 s, .int .i64 val] 75)
  have b2 := b2.alloc (.cells #[.int .i64 who, .int .i64 M, .int .i64 d, .int .i64 s, .int .i64 val] 75)
  have b3 := b3.alloc (.cells #[.int .i64 who, .int .i64 M, .int .i64 d, .int .i64 s, .int .i64 val] 75)
  have b4 := b4.alloc (.cells #[.int .i64 who, .int .i64 M, .int .i64 d, .int .i64 s, .int .i64 val] 75)
  have hv4 := hv3.alloc hv3.size (.cells #[.int .i64 who, .int .i64 M, .int .i64 d, .int .i64 s, .int .i64 val] 75)
  generalize hW4 : w3.alloc (.cells #[.int .i64 who, .int .i64 M, .int .i64 d, .int .i64 s, .int .i64 val] 75) = W4 at *
  clear hW4 c5 c6 c7
  have v2 := b5.cell 4 rfl
  generalize w3.heap.size = F at *
  have hne1 : ¬ (w.heap.size + 1 = E) := by omega
  have hne2 : ¬ (w.heap.size + 1 = N) := by omega
  have hne3 : ¬ (w.heap.size + 1 + 1 = E) := by omega
  have hne4 : ¬ (w.heap.size + 1 + 1 = N) := by omega
  have hne5 : ¬ (E = N) := by omega
  have hne6 : ¬ (E = w.heap.size + 1) := by omega
  have hne7 : ¬ (N = w.heap.size + 1) := by omega
  have hne8 : ¬ (E = w.heap.size + 1 + 1) := by omega
  have hne9 : ¬ (N = w.heap.size + 1 + 1) := by omega
  have hne0 : ¬ (N = E) := by omega
  have e0 := b1.cell 0 rfl
  have e1 := b1.cell 1 rfl
  have e2 := b1.cell 2 rfl
  have e3 := b2.cell 0 rfl
  have e4 := b2.cell 1 rfl
  have e5 := b2.cell 2 rfl
  have e6 := b2.cell 3 rfl
  have d0 := b3.cell 0 rfl
  have d1 := b3.cell 1 rfl
  have d2 := b3.cell 2 rfl
  have d3 := b3.cell 3 rfl
  have c0 := b4.cell 0 rfl
  have c1 := b4.cell 1 rfl
  have c2 := b4.cell 2 rfl
  have q0 := b1.frozen 0
  have q1 := b1.frozen 1
  have q2 := b1.frozen 2
  have q3 := b2.frozen 0
  have q4 := b2.frozen 1
  have q5 := b2.frozen 2
  have q6 := b2.frozen 3
  have r2 := b3.frozen 2
  have r3 := b3.frozen 3
  have r4 := b4.frozen 2
  have r5 := b4.frozen 0
  go_region
  all_goals go_wp2
  all_goals go_region
  all_goals
    go_wp2
    refine bodyPost_ret (v := .tuple #[.agg #[.int .i64 M, .int .i64 d, .int .i64 (s + 1)], .agg #[.int .i64 s, .int .i64 who, .bool true, .int .i64 val], .nilIface]) (by simp [results, Tryd.results19, go_sem, e0, e1, e2, e3, e4, e5, e6]) rfl ?_
    refine ⟨rfl, ?_⟩
    repeat (first | (with_reducible exact hv4) | (with_reducible refine Below.drew ?_) | (with_reducible refine Below.setCell ?_ (by simp <;> omega) _))

set_option maxRecDepth 100000 in
set_option maxHeartbeats 1600000 in
theorem step_err (ea : Nat → Addr) (a : Option Addr) (n cap : Nat) (l : List Int) (m : Nat) (d s : Int) (t : List UInt8) (w : World) (hg : Glob w ea [1, 2, 3, 4, 5, 7, 8]) (hT : TxtEnv w) (hn : l.length = n) (hr : RowAt w a (encInts l)) (hc : n ≤ 4611686018427387904) (ht : t.length ≤ 4294967280)
    (h : (memRF l m d s).1 = 0) (hs : s < 1000000) (hG : (frameF t).1 ≠ 0) :
    Calls Tryd.prog 19 #[.slice a n cap, .agg #[.int .i64 m, .int .i64 d, .int .i64 s], .string ⟨t.toArray⟩] w fun e w' =>
      e = .returned (.tuple #[.agg #[.int .i64 ((lessN (m ||| bitOf (whoV l s.toNat)) (bitOf (whoV l s.toNat)) : Nat) : Int), .int .i64 d, .int .i64 (s + 1)], .agg #[.int .i64 s, .int .i64 (whoV l s.toNat), .bool false, .int .i64 0], .nilIface]) ∧ Below w.heap.size w w' := by
  obtain ⟨hp, hv, hM, hR⟩ := memRF_ok h
  obtain ⟨hcm, hvd⟩ := viewE_zero hv
  have hmlt : m < 65536 := by simp only [crewB, decide_eq_true_eq] at hcm; omega
  have hs0 : 0 ≤ s := by simp only [viewB, decide_eq_true_eq] at hvd; omega
  have hnd : nodeB (whoV l s.toNat) = true := (planF_ok hp).2.2.2 _ (whoV_mem l _ (planF_ok hp).2.1)
  have KR := Lib.hid (fun (W : World) (h : Below w.heap.size w W) => memRight_any ea a n cap l m d s W ((hg.below h).sub (by simp)) hn (hr.below h) hc)
  rw [hM] at KR
  simp only [if_true] at KR
  have KW := Lib.hid (fun (W : World) => with_any m d s (whoV l s.toNat) W hmlt hnd)
  have KF := Lib.hid (fun (W : World) (h : Below w.heap.size w W) => fread_any ea t W ((hg.below h).sub (by simp)) (hT.below h) ht)
  rw [errV_pos ea hG] at KF
  simp only [Frm.arr] at KF
  clear hG
  generalize (frameF t).2.frm = x0 at *
  generalize (frameF t).2.mem = x1 at *
  generalize (frameF t).2.mode = x2 at *
  generalize (frameF t).2.slot = x3 at *
  generalize (frameF t).2.value = x4 at *
  have hb0 : Below w.heap.size w (((w.alloc (.cells #[.int .i64 m, .int .i64 d, .int .i64 s] 42)).alloc (.cells #[.int .i64 0, .int .i64 0, .int .i64 0] 42)).alloc (.cells #[.int .i64 0, .int .i64 0, .bool false, .int .i64 0] 38)) := (((Below.refl _ _).alloc (Nat.le_refl _) _).alloc (by simp) _).alloc (by simp; omega) _
  have hsl : decide (1000000 ≤ s) = false := by simpa using hs
  have hw : wrap64 (s + 1) = s + 1 := by unfold wrap64; omega
  have hbl := bitOf_lt hnd
  have hor : m ||| bitOf (whoV l s.toNat) < 65536 := Nat.or_lt_two_pow (n := 16) hmlt hbl
  have hO := andNot_nat (m ||| bitOf (whoV l s.toNat)) (bitOf (whoV l s.toNat)) (by omega) (by omega)
  rw [← shl_bit hnd] at hO
  have hw1 : ¬ (whoV l s.toNat - 1 < 0) := by simp only [nodeB, decide_eq_true_eq] at hnd; omega
  have hw2 : 1 ≤ whoV l s.toNat ∧ whoV l s.toNat ≤ 16 := by simpa only [nodeB, decide_eq_true_eq] using hnd
  generalize whoV l s.toNat = who at *
  generalize hMM : m ||| bitOf who = M at *
  generalize lessN M (bitOf who) = M2 at *
  clear hMM hg hT hn hr h hp hv hM hR hcm hvd hnd hs hor hbl
  go_enter Tryd.func19, Tryd.ntmps19
  go_wp2_with fail
  have b0 : Blok (((w.alloc (.cells #[.int .i64 m, .int .i64 d, .int .i64 s] 42)).alloc (.cells #[.int .i64 0, .int .i64 0, .int .i64 0] 42)).alloc (.cells #[.int .i64 0, .int .i64 0, .bool false, .int .i64 0] 38)) w.heap.size 42 #[.int .i64 m, .int .i64 d, .int .i64 s] := ((Blok.new w _ _).alloc _).alloc _
  have b1 : Blok (((w.alloc (.cells #[.int .i64 m, .int .i64 d, .int .i64 s] 42)).alloc (.cells #[.int .i64 0, .int .i64 0, .int .i64 0] 42)).alloc (.cells #[.int .i64 0, .int .i64 0, .bool false, .int .i64 0] 38)) (w.heap.size + 1) 42 #[.int .i64 0, .int .i64 0, .int .i64 0] := by
    have := (Blok.new (w.alloc (.cells #[.int .i64 m, .int .i64 d, .int .i64 s] 42)) 42 #[.int .i64 0, .int .i64 0, .int .i64 0]).alloc (.cells #[.int .i64 0, .int .i64 0, .bool false, .int .i64 0] 38)
    rwa [World.size_alloc] at this
  have b2 : Blok (((w.alloc (.cells #[.int .i64 m, .int .i64 d, .int .i64 s] 42)).alloc (.cells #[.int .i64 0, .int .i64 0, .int .i64 0] 42)).alloc (.cells #[.int .i64 0, .int .i64 0, .bool false, .int .i64 0] 38)) (w.heap.size + 1 + 1) 38 #[.int .i64 0, .int .i64 0, .bool false, .int .i64 0] := by
    have := Blok.new ((w.alloc (.cells #[.int .i64 m, .int .i64 d, .int .i64 s] 42)).alloc (.cells #[.int .i64 0, .int .i64 0, .int .i64 0] 42)) 38 #[.int .i64 0, .int .i64 0, .bool false, .int .i64 0]
    rwa [World.size_alloc, World.size_alloc] at this
  generalize hW0 : (((w.alloc (.cells #[.int .i64 m, .int .i64 d, .int .i64 s] 42)).alloc (.cells #[.int .i64 0, .int .i64 0, .int .i64 0] 42)).alloc (.cells #[.int .i64 0, .int .i64 0, .bool false, .int .i64 0] 38)) = W0 at *
  clear hW0
  refine (KR.out _ hb0).mono ?_
  rintro e w1 ⟨v, rfl, hv, hb1⟩
  obtain rfl : v = .nilIface := hv.nil
  have hv1 := hb0.trans (hb1.mono hb0.size)
  have b0 := b0.kept hb1
  have b1 := b1.kept hb1
  have b2 := b2.kept hb1
  have c0 := b0.cell 0 rfl
  have c1 := b0.cell 1 rfl
  have c2 := b0.cell 2 rfl
  have c3 := (b0.alloc (.cells #[.int .i64 s, .int .i64 who, .bool false, .int .i64 0] 38)).cell 0 rfl
  have c4 := (b0.alloc (.cells #[.int .i64 s, .int .i64 who, .bool false, .int .i64 0] 38)).cell 1 rfl
  have c5 := (b0.alloc (.cells #[.int .i64 s, .int .i64 who, .bool false, .int .i64 0] 38)).cell 2 rfl
  clear hb1 hv
  go_wp2_with fail
  refine (KW.out _).mono ?_
  rintro e w2 ⟨rfl, hb2⟩
  have b3 := (Blok.new w1 38 #[.int .i64 s, .int .i64 who, .bool false, .int .i64 0]).kept hb2
  have hb12 : Below w1.heap.size w1 w2 := ((Below.refl _ _).alloc (Nat.le_refl _) _).trans (hb2.mono (by simp))
  have hE := b2.lt
  have b0 := b0.kept hb12
  have b1 := b1.kept hb12
  have b2 := b2.kept hb12
  have hv2 := hv1.trans (hb12.mono hv1.size)
  clear hb2 hb12 c0 c1 c2 c3 c4 c5
  generalize w1.heap.size = E at *
  go_wp2_with fail
  have hvN : Below w.heap.size w (w2.alloc (.cells #[.int .i64 M, .int .i64 d, .int .i64 s] 42)) := hv2.alloc hv2.size _
  refine (KF.out _ hvN).mono ?_
  rintro e w3 ⟨rfl, hb3⟩
  have b4 := (Blok.new w2 42 #[.int .i64 M, .int .i64 d, .int .i64 s]).kept hb3
  have hv3 := hvN.trans (hb3.mono hvN.size)
  have hN := b3.lt
  have b0 := (b0.alloc _).kept hb3
  have b1 := (b1.alloc _).kept hb3
  have b2 := (b2.alloc _).kept hb3
  have b3 := (b3.alloc _).kept hb3
  clear hb3 hvN hv2 hv1
  generalize w2.heap.size = N at *
  have hF := b4.lt
  have c5 := (b4.alloc (.cells #[.int .i64 x0, .int .i64 x1, .int .i64 x2, .int .i64 x3, .int .i64 x4] 75)).cell 0 rfl
  have c6 := (b4.alloc (.cells #[.int .i64 x0, .int .i64 x1, .int .i64 x2, .int .i64 x3, .int .i64 x4] 75)).cell 1 rfl
  have c7 := (b4.alloc (.cells #[.int .i64 x0, .int .i64 x1, .int .i64 x2, .int .i64 x3, .int .i64 x4] 75)).cell 2 rfl
  go_wp2
  have b5 := Blok.new w3 75 #[.int .i64 x0, .int .i64 x1, .int .i64 x2, .int .i64 x3, .int .i64 x4]
  have b0 := b0.alloc (.cells #[.int .i64 x0, .int .i64 x1, .int .i64 x2, .int .i64 x3, .int .i64 x4] 75)
  have b1 := b1.alloc (.cells #[.int .i64 x0, .int .i64 x1, .int .i64 x2, .int .i64 x3, .int .i64 x4] 75)
  have b2 := b2.alloc (.cells #[.int .i64 x0, .int .i64 x1, .int .i64 x2, .int .i64 x3, .int .i64 x4] 75)
  have b3 := b3.alloc (.cells #[.int .i64 x0, .int .i64 x1, .int .i64 x2, .int .i64 x3, .int .i64 x4] 75)
  have b4 := b4.alloc (.cells #[.int .i64 x0, .int .i64 x1, .int .i64 x2, .int .i64 x3, .int .i64 x4] 75)
  have hv4 := hv3.alloc hv3.size (.cells #[.int .i64 x0, .int .i64 x1, .int .i64 x2, .int .i64 x3, .int .i64 x4] 75)
  generalize hW4 : w3.alloc (.cells #[.int .i64 x0, .int .i64 x1, .int .i64 x2, .int .i64 x3, .int .i64 x4] 75) = W4 at *
  clear hW4 c5 c6 c7
  have v2 := b5.cell 4 rfl
  generalize w3.heap.size = F at *
  have hne1 : ¬ (w.heap.size + 1 = E) := by omega
  have hne2 : ¬ (w.heap.size + 1 = N) := by omega
  have hne3 : ¬ (w.heap.size + 1 + 1 = E) := by omega
  have hne4 : ¬ (w.heap.size + 1 + 1 = N) := by omega
  have hne5 : ¬ (E = N) := by omega
  have hne6 : ¬ (E = w.heap.size + 1) := by omega
  have hne7 : ¬ (N = w.heap.size + 1) := by omega
  have hne8 : ¬ (E = w.heap.size + 1 + 1) := by omega
  have hne9 : ¬ (N = w.heap.size + 1 + 1) := by omega
  have hne0 : ¬ (N = E) := by omega
  have e0 := b1.cell 0 rfl
  have e1 := b1.cell 1 rfl
  have e2 := b1.cell 2 rfl
  have e3 := b2.cell 0 rfl
  have e4 := b2.cell 1 rfl
  have e5 := b2.cell 2 rfl
  have e6 := b2.cell 3 rfl
  have d0 := b3.cell 0 rfl
  have d1 := b3.cell 1 rfl
  have d2 := b3.cell 2 rfl
  have d3 := b3.cell 3 rfl
  have c0 := b4.cell 0 rfl
  have c1 := b4.cell 1 rfl
  have c2 := b4.cell 2 rfl
  have q0 := b1.frozen 0
  have q1 := b1.frozen 1
  have q2 := b1.frozen 2
  have q3 := b2.frozen 0
  have q4 := b2.frozen 1
  have q5 := b2.frozen 2
  have q6 := b2.frozen 3
  have r2 := b3.frozen 2
  have r3 := b3.frozen 3
  have r4 := b4.frozen 2
  have r5 := b4.frozen 0
  go_region
  all_goals go_wp2
  all_goals go_region
  all_goals
    go_wp2
    refine bodyPost_ret (v := .tuple #[.agg #[.int .i64 M2, .int .i64 d, .int .i64 (s + 1)], .agg #[.int .i64 s, .int .i64 who, .bool false, .int .i64 0], .nilIface]) (by simp [results, Tryd.results19, go_sem, e0, e1, e2, e3, e4, e5, e6]) rfl ?_
    refine ⟨rfl, ?_⟩
    repeat (first | (with_reducible exact hv4) | (with_reducible refine Below.drew ?_) | (with_reducible refine Below.setCell ?_ (by simp <;> omega) _))

set_option maxRecDepth 100000 in
set_option maxHeartbeats 1600000 in
theorem step_from (ea : Nat → Addr) (a : Option Addr) (n cap : Nat) (l : List Int) (m : Nat) (d s : Int) (t : List UInt8) (w : World) (hg : Glob w ea [1, 2, 3, 4, 5, 7, 8]) (hT : TxtEnv w) (hn : l.length = n) (hr : RowAt w a (encInts l)) (hc : n ≤ 4611686018427387904) (ht : t.length ≤ 4294967280)
    (h : (memRF l m d s).1 = 0) (hs : s < 1000000) (hG : (frameF t).1 = 0) (hG2 : (frameF t).2.frm ≠ whoV l s.toNat) :
    Calls Tryd.prog 19 #[.slice a n cap, .agg #[.int .i64 m, .int .i64 d, .int .i64 s], .string ⟨t.toArray⟩] w fun e w' =>
      e = .returned (.tuple #[.agg #[.int .i64 ((lessN (m ||| bitOf (whoV l s.toNat)) (bitOf (whoV l s.toNat)) : Nat) : Int), .int .i64 d, .int .i64 (s + 1)], .agg #[.int .i64 s, .int .i64 (whoV l s.toNat), .bool false, .int .i64 0], .nilIface]) ∧ Below w.heap.size w w' := by
  obtain ⟨hp, hv, hM, hR⟩ := memRF_ok h
  obtain ⟨hcm, hvd⟩ := viewE_zero hv
  have hmlt : m < 65536 := by simp only [crewB, decide_eq_true_eq] at hcm; omega
  have hs0 : 0 ≤ s := by simp only [viewB, decide_eq_true_eq] at hvd; omega
  have hnd : nodeB (whoV l s.toNat) = true := (planF_ok hp).2.2.2 _ (whoV_mem l _ (planF_ok hp).2.1)
  have KR := Lib.hid (fun (W : World) (h : Below w.heap.size w W) => memRight_any ea a n cap l m d s W ((hg.below h).sub (by simp)) hn (hr.below h) hc)
  rw [hM] at KR
  simp only [if_true] at KR
  have KW := Lib.hid (fun (W : World) => with_any m d s (whoV l s.toNat) W hmlt hnd)
  have KF := Lib.hid (fun (W : World) (h : Below w.heap.size w W) => fread_any ea t W ((hg.below h).sub (by simp)) (hT.below h) ht)
  rw [hG, errV_zero] at KF
  simp only [Frm.arr] at KF
  have hfb : ((frameF t).2.frm == whoV l s.toNat) = false := by simpa using hG2
  clear hG hG2
  generalize (frameF t).2.frm = x0 at *
  generalize (frameF t).2.mem = x1 at *
  generalize (frameF t).2.mode = x2 at *
  generalize (frameF t).2.slot = x3 at *
  generalize (frameF t).2.value = x4 at *
  have hb0 : Below w.heap.size w (((w.alloc (.cells #[.int .i64 m, .int .i64 d, .int .i64 s] 42)).alloc (.cells #[.int .i64 0, .int .i64 0, .int .i64 0] 42)).alloc (.cells #[.int .i64 0, .int .i64 0, .bool false, .int .i64 0] 38)) := (((Below.refl _ _).alloc (Nat.le_refl _) _).alloc (by simp) _).alloc (by simp; omega) _
  have hsl : decide (1000000 ≤ s) = false := by simpa using hs
  have hw : wrap64 (s + 1) = s + 1 := by unfold wrap64; omega
  have hbl := bitOf_lt hnd
  have hor : m ||| bitOf (whoV l s.toNat) < 65536 := Nat.or_lt_two_pow (n := 16) hmlt hbl
  have hO := andNot_nat (m ||| bitOf (whoV l s.toNat)) (bitOf (whoV l s.toNat)) (by omega) (by omega)
  rw [← shl_bit hnd] at hO
  have hw1 : ¬ (whoV l s.toNat - 1 < 0) := by simp only [nodeB, decide_eq_true_eq] at hnd; omega
  have hw2 : 1 ≤ whoV l s.toNat ∧ whoV l s.toNat ≤ 16 := by simpa only [nodeB, decide_eq_true_eq] using hnd
  generalize whoV l s.toNat = who at *
  generalize hMM : m ||| bitOf who = M at *
  generalize lessN M (bitOf who) = M2 at *
  clear hMM hg hT hn hr h hp hv hM hR hcm hvd hnd hs hor hbl
  go_enter Tryd.func19, Tryd.ntmps19
  go_wp2_with fail
  have b0 : Blok (((w.alloc (.cells #[.int .i64 m, .int .i64 d, .int .i64 s] 42)).alloc (.cells #[.int .i64 0, .int .i64 0, .int .i64 0] 42)).alloc (.cells #[.int .i64 0, .int .i64 0, .bool false, .int .i64 0] 38)) w.heap.size 42 #[.int .i64 m, .int .i64 d, .int .i64 s] := ((Blok.new w _ _).alloc _).alloc _
  have b1 : Blok (((w.alloc (.cells #[.int .i64 m, .int .i64 d, .int .i64 s] 42)).alloc (.cells #[.int .i64 0, .int .i64 0, .int .i64 0] 42)).alloc (.cells #[.int .i64 0, .int .i64 0, .bool false, .int .i64 0] 38)) (w.heap.size + 1) 42 #[.int .i64 0, .int .i64 0, .int .i64 0] := by
    have := (Blok.new (w.alloc (.cells #[.int .i64 m, .int .i64 d, .int .i64 s] 42)) 42 #[.int .i64 0, .int .i64 0, .int .i64 0]).alloc (.cells #[.int .i64 0, .int .i64 0, .bool false, .int .i64 0] 38)
    rwa [World.size_alloc] at this
  have b2 : Blok (((w.alloc (.cells #[.int .i64 m, .int .i64 d, .int .i64 s] 42)).alloc (.cells #[.int .i64 0, .int .i64 0, .int .i64 0] 42)).alloc (.cells #[.int .i64 0, .int .i64 0, .bool false, .int .i64 0] 38)) (w.heap.size + 1 + 1) 38 #[.int .i64 0, .int .i64 0, .bool false, .int .i64 0] := by
    have := Blok.new ((w.alloc (.cells #[.int .i64 m, .int .i64 d, .int .i64 s] 42)).alloc (.cells #[.int .i64 0, .int .i64 0, .int .i64 0] 42)) 38 #[.int .i64 0, .int .i64 0, .bool false, .int .i64 0]
    rwa [World.size_alloc, World.size_alloc] at this
  generalize hW0 : (((w.alloc (.cells #[.int .i64 m, .int .i64 d, .int .i64 s] 42)).alloc (.cells #[.int .i64 0, .int .i64 0, .int .i64 0] 42)).alloc (.cells #[.int .i64 0, .int .i64 0, .bool false, .int .i64 0] 38)) = W0 at *
  clear hW0
  refine (KR.out _ hb0).mono ?_
  rintro e w1 ⟨v, rfl, hv, hb1⟩
  obtain rfl : v = .nilIface := hv.nil
  have hv1 := hb0.trans (hb1.mono hb0.size)
  have b0 := b0.kept hb1
  have b1 := b1.kept hb1
  have b2 := b2.kept hb1
  have c0 := b0.cell 0 rfl
  have c1 := b0.cell 1 rfl
  have c2 := b0.cell 2 rfl
  have c3 := (b0.alloc (.cells #[.int .i64 s, .int .i64 who, .bool false, .int .i64 0] 38)).cell 0 rfl
  have c4 := (b0.alloc (.cells #[.int .i64 s, .int .i64 who, .bool false, .int .i64 0] 38)).cell 1 rfl
  have c5 := (b0.alloc (.cells #[.int .i64 s, .int .i64 who, .bool false, .int .i64 0] 38)).cell 2 rfl
  clear hb1 hv
  go_wp2_with fail
  refine (KW.out _).mono ?_
  rintro e w2 ⟨rfl, hb2⟩
  have b3 := (Blok.new w1 38 #[.int .i64 s, .int .i64 who, .bool false, .int .i64 0]).kept hb2
  have hb12 : Below w1.heap.size w1 w2 := ((Below.refl _ _).alloc (Nat.le_refl _) _).trans (hb2.mono (by simp))
  have hE := b2.lt
  have b0 := b0.kept hb12
  have b1 := b1.kept hb12
  have b2 := b2.kept hb12
  have hv2 := hv1.trans (hb12.mono hv1.size)
  clear hb2 hb12 c0 c1 c2 c3 c4 c5
  generalize w1.heap.size = E at *
  go_wp2_with fail
  have hvN : Below w.heap.size w (w2.alloc (.cells #[.int .i64 M, .int .i64 d, .int .i64 s] 42)) := hv2.alloc hv2.size _
  refine (KF.out _ hvN).mono ?_
  rintro e w3 ⟨rfl, hb3⟩
  have b4 := (Blok.new w2 42 #[.int .i64 M, .int .i64 d, .int .i64 s]).kept hb3
  have hv3 := hvN.trans (hb3.mono hvN.size)
  have hN := b3.lt
  have b0 := (b0.alloc _).kept hb3
  have b1 := (b1.alloc _).kept hb3
  have b2 := (b2.alloc _).kept hb3
  have b3 := (b3.alloc _).kept hb3
  clear hb3 hvN hv2 hv1
  generalize w2.heap.size = N at *
  have hF := b4.lt
  have c5 := (b4.alloc (.cells #[.int .i64 x0, .int .i64 x1, .int .i64 x2, .int .i64 x3, .int .i64 x4] 75)).cell 0 rfl
  have c6 := (b4.alloc (.cells #[.int .i64 x0, .int .i64 x1, .int .i64 x2, .int .i64 x3, .int .i64 x4] 75)).cell 1 rfl
  have c7 := (b4.alloc (.cells #[.int .i64 x0, .int .i64 x1, .int .i64 x2, .int .i64 x3, .int .i64 x4] 75)).cell 2 rfl
  go_wp2
  have b5 := Blok.new w3 75 #[.int .i64 x0, .int .i64 x1, .int .i64 x2, .int .i64 x3, .int .i64 x4]
  have b0 := b0.alloc (.cells #[.int .i64 x0, .int .i64 x1, .int .i64 x2, .int .i64 x3, .int .i64 x4] 75)
  have b1 := b1.alloc (.cells #[.int .i64 x0, .int .i64 x1, .int .i64 x2, .int .i64 x3, .int .i64 x4] 75)
  have b2 := b2.alloc (.cells #[.int .i64 x0, .int .i64 x1, .int .i64 x2, .int .i64 x3, .int .i64 x4] 75)
  have b3 := b3.alloc (.cells #[.int .i64 x0, .int .i64 x1, .int .i64 x2, .int .i64 x3, .int .i64 x4] 75)
  have b4 := b4.alloc (.cells #[.int .i64 x0, .int .i64 x1, .int .i64 x2, .int .i64 x3, .int .i64 x4] 75)
  have hv4 := hv3.alloc hv3.size (.cells #[.int .i64 x0, .int .i64 x1, .int .i64 x2, .int .i64 x3, .int .i64 x4] 75)
  generalize hW4 : w3.alloc (.cells #[.int .i64 x0, .int .i64 x1, .int .i64 x2, .int .i64 x3, .int .i64 x4] 75) = W4 at *
  clear hW4 c5 c6 c7
  have v2 := b5.cell 4 rfl
  generalize w3.heap.size = F at *
  have hne1 : ¬ (w.heap.size + 1 = E) := by omega
  have hne2 : ¬ (w.heap.size + 1 = N) := by omega
  have hne3 : ¬ (w.heap.size + 1 + 1 = E) := by omega
  have hne4 : ¬ (w.heap.size + 1 + 1 = N) := by omega
  have hne5 : ¬ (E = N) := by omega
  have hne6 : ¬ (E = w.heap.size + 1) := by omega
  have hne7 : ¬ (N = w.heap.size + 1) := by omega
  have hne8 : ¬ (E = w.heap.size + 1 + 1) := by omega
  have hne9 : ¬ (N = w.heap.size + 1 + 1) := by omega
  have hne0 : ¬ (N = E) := by omega
  have e0 := b1.cell 0 rfl
  have e1 := b1.cell 1 rfl
  have e2 := b1.cell 2 rfl
  have e3 := b2.cell 0 rfl
  have e4 := b2.cell 1 rfl
  have e5 := b2.cell 2 rfl
  have e6 := b2.cell 3 rfl
  have d0 := b3.cell 0 rfl
  have d1 := b3.cell 1 rfl
  have d2 := b3.cell 2 rfl
  have d3 := b3.cell 3 rfl
  have c0 := b4.cell 0 rfl
  have c1 := b4.cell 1 rfl
  have c2 := b4.cell 2 rfl
  have q0 := b1.frozen 0
  have q1 := b1.frozen 1
  have q2 := b1.frozen 2
  have q3 := b2.frozen 0
  have q4 := b2.frozen 1
  have q5 := b2.frozen 2
  have q6 := b2.frozen 3
  have r2 := b3.frozen 2
  have r3 := b3.frozen 3
  have r4 := b4.frozen 2
  have r5 := b4.frozen 0
  go_region
  all_goals go_wp2
  all_goals go_region
  all_goals
    go_wp2
    refine bodyPost_ret (v := .tuple #[.agg #[.int .i64 M2, .int .i64 d, .int .i64 (s + 1)], .agg #[.int .i64 s, .int .i64 who, .bool false, .int .i64 0], .nilIface]) (by simp [results, Tryd.results19, go_sem, e0, e1, e2, e3, e4, e5, e6]) rfl ?_
    refine ⟨rfl, ?_⟩
    repeat (first | (with_reducible exact hv4) | (with_reducible refine Below.drew ?_) | (with_reducible refine Below.setCell ?_ (by simp <;> omega) _))

set_option maxRecDepth 100000 in
set_option maxHeartbeats 1600000 in
theorem step_view (ea : Nat → Addr) (a : Option Addr) (n cap : Nat) (l : List Int) (m : Nat) (d s : Int) (t : List UInt8) (w : World) (hg : Glob w ea [1, 2, 3, 4, 5, 7, 8]) (hT : TxtEnv w) (hn : l.length = n) (hr : RowAt w a (encInts l)) (hc : n ≤ 4611686018427387904) (ht : t.length ≤ 4294967280)
    (h : (memRF l m d s).1 = 0) (hs : s < 1000000) (hG : (frameF t).1 = 0) (hG2 : (frameF t).2.frm = whoV l s.toNat) (hG3 : ¬ ((frameF t).2.mem = ((m ||| bitOf (whoV l s.toNat) : Nat) : Int) ∧ (frameF t).2.mode = d ∧ (frameF t).2.slot = s)) :
    Calls Tryd.prog 19 #[.slice a n cap, .agg #[.int .i64 m, .int .i64 d, .int .i64 s], .string ⟨t.toArray⟩] w fun e w' =>
      e = .returned (.tuple #[.agg #[.int .i64 ((lessN (m ||| bitOf (whoV l s.toNat)) (bitOf (whoV l s.toNat)) : Nat) : Int), .int .i64 d, .int .i64 (s + 1)], .agg #[.int .i64 s, .int .i64 (whoV l s.toNat), .bool false, .int .i64 0], .nilIface]) ∧ Below w.heap.size w w' := by
  obtain ⟨hp, hv, hM, hR⟩ := memRF_ok h
  obtain ⟨hcm, hvd⟩ := viewE_zero hv
  have hmlt : m < 65536 := by simp only [crewB, decide_eq_true_eq] at hcm; omega
  have hs0 : 0 ≤ s := by simp only [viewB, decide_eq_true_eq] at hvd; omega
  have hnd : nodeB (whoV l s.toNat) = true := (planF_ok hp).2.2.2 _ (whoV_mem l _ (planF_ok hp).2.1)
  have KR := Lib.hid (fun (W : World) (h : Below w.heap.size w W) => memRight_any ea a n cap l m d s W ((hg.below h).sub (by simp)) hn (hr.below h) hc)
  rw [hM] at KR
  simp only [if_true] at KR
  have KW := Lib.hid (fun (W : World) => with_any m d s (whoV l s.toNat) W hmlt hnd)
  have KF := Lib.hid (fun (W : World) (h : Below w.heap.size w W) => fread_any ea t W ((hg.below h).sub (by simp)) (hT.below h) ht)
  rw [hG, errV_zero] at KF
  simp only [Frm.arr, hG2] at KF
  have HQ : ∀ W : World, (binOp .eql 42 (.agg #[.int .i64 (frameF t).2.mem, .int .i64 (frameF t).2.mode, .int .i64 (frameF t).2.slot]) (.agg #[.int .i64 ((m ||| bitOf (whoV l s.toNat) : Nat) : Int), .int .i64 d, .int .i64 s])).run Tryd.prog W = .ok (.bool false) W := fun W => by
    rw [run_view_eql]
    congr 2
    rw [Bool.eq_false_iff]
    intro hh
    simp only [Bool.and_eq_true, beq_iff_eq] at hh
    exact hG3 hh
  clear hG hG2 hG3
  generalize (frameF t).2.mem = x1 at *
  generalize (frameF t).2.mode = x2 at *
  generalize (frameF t).2.slot = x3 at *
  generalize (frameF t).2.value = x4 at *
  have hb0 : Below w.heap.size w (((w.alloc (.cells #[.int .i64 m, .int .i64 d, .int .i64 s] 42)).alloc (.cells #[.int .i64 0, .int .i64 0, .int .i64 0] 42)).alloc (.cells #[.int .i64 0, .int .i64 0, .bool false, .int .i64 0] 38)) := (((Below.refl _ _).alloc (Nat.le_refl _) _).alloc (by simp) _).alloc (by simp; omega) _
  have hsl : decide (1000000 ≤ s) = false := by simpa using hs
  have hw : wrap64 (s + 1) = s + 1 := by unfold wrap64; omega
  have hbl := bitOf_lt hnd
  have hor : m ||| bitOf (whoV l s.toNat) < 65536 := Nat.or_lt_two_pow (n := 16) hmlt hbl
  have hO := andNot_nat (m ||| bitOf (whoV l s.toNat)) (bitOf (whoV l s.toNat)) (by omega) (by omega)
  rw [← shl_bit hnd] at hO
  have hw1 : ¬ (whoV l s.toNat - 1 < 0) := by simp only [nodeB, decide_eq_true_eq] at hnd; omega
  have hw2 : 1 ≤ whoV l s.toNat ∧ whoV l s.toNat ≤ 16 := by simpa only [nodeB, decide_eq_true_eq] using hnd
  generalize whoV l s.toNat = who at *
  generalize hMM : m ||| bitOf who = M at *
  generalize lessN M (bitOf who) = M2 at *
  clear hMM hg hT hn hr h hp hv hM hR hcm hvd hnd hs hor hbl
  go_enter Tryd.func19, Tryd.ntmps19
  go_wp2_with fail
  have b0 : Blok (((w.alloc (.cells #[.int .i64 m, .int .i64 d, .int .i64 s] 42)).alloc (.cells #[.int .i64 0, .int .i64 0, .int .i64 0] 42)).alloc (.cells #[.int .i64 0, .int .i64 0, .bool false, .int .i64 0] 38)) w.heap.size 42 #[.int .i64 m, .int .i64 d, .int .i64 s] := ((Blok.new w _ _).alloc _).alloc _
  have b1 : Blok (((w.alloc (.cells #[.int .i64 m, .int .i64 d, .int .i64 s] 42)).alloc (.cells #[.int .i64 0, .int .i64 0, .int .i64 0] 42)).alloc (.cells #[.int .i64 0, .int .i64 0, .bool false, .int .i64 0] 38)) (w.heap.size + 1) 42 #[.int .i64 0, .int .i64 0, .int .i64 0] := by
    have := (Blok.new (w.alloc (.cells #[.int .i64 m, .int .i64 d, .int .i64 s] 42)) 42 #[.int .i64 0, .int .i64 0, .int .i64 0]).alloc (.cells #[.int .i64 0, .int .i64 0, .bool false, .int .i64 0] 38)
    rwa [World.size_alloc] at this
  have b2 : Blok (((w.alloc (.cells #[.int .i64 m, .int .i64 d, .int .i64 s] 42)).alloc (.cells #[.int .i64 0, .int .i64 0, .int .i64 0] 42)).alloc (.cells #[.int .i64 0, .int .i64 0, .bool false, .int .i64 0] 38)) (w.heap.size + 1 + 1) 38 #[.int .i64 0, .int .i64 0, .bool false, .int .i64 0] := by
    have := Blok.new ((w.alloc (.cells #[.int .i64 m, .int .i64 d, .int .i64 s] 42)).alloc (.cells #[.int .i64 0, .int .i64 0, .int .i64 0] 42)) 38 #[.int .i64 0, .int .i64 0, .bool false, .int .i64 0]
    rwa [World.size_alloc, World.size_alloc] at this
  generalize hW0 : (((w.alloc (.cells #[.int .i64 m, .int .i64 d, .int .i64 s] 42)).alloc (.cells #[.int .i64 0, .int .i64 0, .int .i64 0] 42)).alloc (.cells #[.int .i64 0, .int .i64 0, .bool false, .int .i64 0] 38)) = W0 at *
  clear hW0
  refine (KR.out _ hb0).mono ?_
  rintro e w1 ⟨v, rfl, hv, hb1⟩
  obtain rfl : v = .nilIface := hv.nil
  have hv1 := hb0.trans (hb1.mono hb0.size)
  have b0 := b0.kept hb1
  have b1 := b1.kept hb1
  have b2 := b2.kept hb1
  have c0 := b0.cell 0 rfl
  have c1 := b0.cell 1 rfl
  have c2 := b0.cell 2 rfl
  have c3 := (b0.alloc (.cells #[.int .i64 s, .int .i64 who, .bool false, .int .i64 0] 38)).cell 0 rfl
  have c4 := (b0.alloc (.cells #[.int .i64 s, .int .i64 who, .bool false, .int .i64 0] 38)).cell 1 rfl
  have c5 := (b0.alloc (.cells #[.int .i64 s, .int .i64 who, .bool false, .int .i64 0] 38)).cell 2 rfl
  clear hb1 hv
  go_wp2_with fail
  refine (KW.out _).mono ?_
  rintro e w2 ⟨rfl, hb2⟩
  have b3 := (Blok.new w1 38 #[.int .i64 s, .int .i64 who, .bool false, .int .i64 0]).kept hb2
  have hb12 : Below w1.heap.size w1 w2 := ((Below.refl _ _).alloc (Nat.le_refl _) _).trans (hb2.mono (by simp))
  have hE := b2.lt
  have b0 := b0.kept hb12
  have b1 := b1.kept hb12
  have b2 := b2.kept hb12
  have hv2 := hv1.trans (hb12.mono hv1.size)
  clear hb2 hb12 c0 c1 c2 c3 c4 c5
  generalize w1.heap.size = E at *
  go_wp2_with fail
  have hvN : Below w.heap.size w (w2.alloc (.cells #[.int .i64 M, .int .i64 d, .int .i64 s] 42)) := hv2.alloc hv2.size _
  refine (KF.out _ hvN).mono ?_
  rintro e w3 ⟨rfl, hb3⟩
  have b4 := (Blok.new w2 42 #[.int .i64 M, .int .i64 d, .int .i64 s]).kept hb3
  have hv3 := hvN.trans (hb3.mono hvN.size)
  have hN := b3.lt
  have b0 := (b0.alloc _).kept hb3
  have b1 := (b1.alloc _).kept hb3
  have b2 := (b2.alloc _).kept hb3
  have b3 := (b3.alloc _).kept hb3
  clear hb3 hvN hv2 hv1
  generalize w2.heap.size = N at *
  have hF := b4.lt
  have c5 := (b4.alloc (.cells #[.int .i64 who, .int .i64 x1, .int .i64 x2, .int .i64 x3, .int .i64 x4] 75)).cell 0 rfl
  have c6 := (b4.alloc (.cells #[.int .i64 who, .int .i64 x1, .int .i64 x2, .int .i64 x3, .int .i64 x4] 75)).cell 1 rfl
  have c7 := (b4.alloc (.cells #[.int .i64 who, .int .i64 x1, .int .i64 x2, .int .i64 x3, .int .i64 x4] 75)).cell 2 rfl
  go_wp2
  have b5 := Blok.new w3 75 #[.int .i64 who, .int .i64 x1, .int .i64 x2, .int .i64 x3, .int .i64 x4]
  have b0 := b0.alloc (.cells #[.int .i64 who, .int .i64 x1, .int .i64 x2, .int .i64 x3, .int .i64 x4] 75)
  have b1 := b1.alloc (.cells #[.int .i64 who, .int .i64 x1, .int .i64 x2, .int .i64 x3, .int .i64 x4] 75)
  have b2 := b2.alloc (.cells #[.int .i64 who, .int .i64 x1, .int .i64 x2, .int .i64 x3, .int .i64 x4] 75)
  have b3 := b3.alloc (.cells #[.int .i64 who, .int .i64 x1, .int .i64 x2, .int .i64 x3, .int .i64 x4] 75)
  have b4 := b4.alloc (.cells #[.int .i64 who, .int .i64 x1, .int .i64 x2, .int .i64 x3, .int .i64 x4] 75)
  have hv4 := hv3.alloc hv3.size (.cells #[.int .i64 who, .int .i64 x1, .int .i64 x2, .int .i64 x3, .int .i64 x4] 75)
  generalize hW4 : w3.alloc (.cells #[.int .i64 who, .int .i64 x1, .int .i64 x2, .int .i64 x3, .int .i64 x4] 75) = W4 at *
  clear hW4 c5 c6 c7
  have v2 := b5.cell 4 rfl
  generalize w3.heap.size = F at *
  have hne1 : ¬ (w.heap.size + 1 = E) := by omega
  have hne2 : ¬ (w.heap.size + 1 = N) := by omega
  have hne3 : ¬ (w.heap.size + 1 + 1 = E) := by omega
  have hne4 : ¬ (w.heap.size + 1 + 1 = N) := by omega
  have hne5 : ¬ (E = N) := by omega
  have hne6 : ¬ (E = w.heap.size + 1) := by omega
  have hne7 : ¬ (N = w.heap.size + 1) := by omega
  have hne8 : ¬ (E = w.heap.size + 1 + 1) := by omega
  have hne9 : ¬ (N = w.heap.size + 1 + 1) := by omega
  have hne0 : ¬ (N = E) := by omega
  have e0 := b1.cell 0 rfl
  have e1 := b1.cell 1 rfl
  have e2 := b1.cell 2 rfl
  have e3 := b2.cell 0 rfl
  have e4 := b2.cell 1 rfl
  have e5 := b2.cell 2 rfl
  have e6 := b2.cell 3 rfl
  have d0 := b3.cell 0 rfl
  have d1 := b3.cell 1 rfl
  have d2 := b3.cell 2 rfl
  have d3 := b3.cell 3 rfl
  have c0 := b4.cell 0 rfl
  have c1 := b4.cell 1 rfl
  have c2 := b4.cell 2 rfl
  have q0 := b1.frozen 0
  have q1 := b1.frozen 1
  have q2 := b1.frozen 2
  have q3 := b2.frozen 0
  have q4 := b2.frozen 1
  have q5 := b2.frozen 2
  have q6 := b2.frozen 3
  have r2 := b3.frozen 2
  have r3 := b3.frozen 3
  have r4 := b4.frozen 2
  have r5 := b4.frozen 0
  go_region
  all_goals go_wp2
  all_goals go_region
  all_goals
    go_wp2
    refine bodyPost_ret (v := .tuple #[.agg #[.int .i64 M2, .int .i64 d, .int .i64 (s + 1)], .agg #[.int .i64 s, .int .i64 who, .bool false, .int .i64 0], .nilIface]) (by simp [results, Tryd.results19, go_sem, e0, e1, e2, e3, e4, e5, e6]) rfl ?_
    refine ⟨rfl, ?_⟩
    repeat (first | (with_reducible exact hv4) | (with_reducible refine Below.drew ?_) | (with_reducible refine Below.setCell ?_ (by simp <;> omega) _))
end Go.Proofs.YtbfocagicagehaaDoor
