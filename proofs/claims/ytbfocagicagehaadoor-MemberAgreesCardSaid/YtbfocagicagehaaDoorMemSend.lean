/- member.Step and member.Send, whatever the input. -/
import Derived.Test.YtbfocagicagehaaDoorMemStep
namespace Go.Proofs.YtbfocagicagehaaDoor
open Go.RowKit

/-- member.Step's error. -/
def stepF (l : List Int) (m d s : Int) : Nat × Int := if (memRF l m d s).1 = 0 then (if 1000000 ≤ s then (7, -1) else (0, -1)) else memRF l m d s
def stepOk (l : List Int) (m d s : Int) (t : List UInt8) : Bool := stepB (whoV l s.toNat) m.toNat d s t
/-- The members behind a step. -/
def stepM (l : List Int) (m d s : Int) (t : List UInt8) : Nat := if stepOk l m d s t then m.toNat ||| bitOf (whoV l s.toNat) else lessN (m.toNat ||| bitOf (whoV l s.toNat)) (bitOf (whoV l s.toNat))
def stepV (l : List Int) (m d s : Int) (t : List UInt8) : Int × Int × Int := if (stepF l m d s).1 = 0 then ((stepM l m d s t : Int), d, s + 1) else (0, 0, 0)
def stepE (l : List Int) (m d s : Int) (t : List UInt8) : Ent := if (stepF l m d s).1 = 0 then ⟨s, whoV l s.toNat, stepOk l m d s t, if stepOk l m d s t then (frameF t).2.value else 0⟩ else ⟨0, 0, false, 0⟩

/-- An error abides where a block is stored whose second cell is no error. -/
theorem ErrIs.setAt {ea : Nat → Addr} {w : World} {v : Value} {code : Nat} {pl : Int} {b : Nat} (h : ErrIs ea w v code pl) (hc : ∀ t p, w.cell? ⟨b, 1, none⟩ ≠ some (.iface t p)) (o : Nat) (x : Value) :
    ErrIs ea (w.setCell ⟨b, o, none⟩ x) v code pl := by
  rcases h with h | ⟨h0, h1, g, rfl, hlt, h2, h3⟩
  · exact Or.inl h
  · have hne : b ≠ g := by
      rintro rfl
      rw [errV_pos ea h1] at h3
      exact hc _ _ h3
    refine Or.inr ⟨h0, h1, g, rfl, by simpa using hlt, ?_, ?_⟩
    · exact (World.cell?_setCell_other _ _ _ _ (fun e => hne (congrArg Addr.block e))).trans h2
    · exact (World.cell?_setCell_other _ _ _ _ (fun e => hne (congrArg Addr.block e))).trans h3
theorem ErrIs.drew {ea : Nat → Addr} {w : World} {v : Value} {code : Nat} {pl : Int} (h : ErrIs ea w v code pl) : ErrIs ea w.drew v code pl := h.below (Below.refl _ _).drew

set_option maxRecDepth 100000 in
set_option maxHeartbeats 800000 in
theorem step_bad (ea : Nat → Addr) (a : Option Addr) (n cap : Nat) (l : List Int) (m d s : Int) (t : List UInt8) (w : World) (hg : Glob w ea [1, 2, 3, 4, 5, 7, 8]) (hn : l.length = n) (hr : RowAt w a (encInts l)) (hc : n ≤ 4611686018427387904)
    (h : (memRF l m d s).1 ≠ 0) :
    Calls Tryd.prog 19 #[.slice a n cap, .agg #[.int .i64 m, .int .i64 d, .int .i64 s], .string ⟨t.toArray⟩] w fun e w' =>
      ∃ v, e = .returned (.tuple #[.agg #[.int .i64 0, .int .i64 0, .int .i64 0], .agg #[.int .i64 0, .int .i64 0, .bool false, .int .i64 0], v]) ∧ ErrIs ea w' v (memRF l m d s).1 (memRF l m d s).2 ∧ Below w.heap.size w w' := by
  have KR := Lib.hid (fun (W : World) (h : Below w.heap.size w W) => memRight_any ea a n cap l m d s W ((hg.below h).sub (by simp)) hn (hr.below h) hc)
  rw [if_neg h] at KR
  have hb0 : Below w.heap.size w (((w.alloc (.cells #[.int .i64 m, .int .i64 d, .int .i64 s] 42)).alloc (.cells #[.int .i64 0, .int .i64 0, .int .i64 0] 42)).alloc (.cells #[.int .i64 0, .int .i64 0, .bool false, .int .i64 0] 38)) := (((Below.refl _ _).alloc (Nat.le_refl _) _).alloc (by simp) _).alloc (by simp; omega) _
  have H0 := Lib.hid h
  clear hg hn hr h
  go_enter Tryd.func19, Tryd.ntmps19
  go_wp2_with fail
  have b1 : Blok (((w.alloc (.cells #[.int .i64 m, .int .i64 d, .int .i64 s] 42)).alloc (.cells #[.int .i64 0, .int .i64 0, .int .i64 0] 42)).alloc (.cells #[.int .i64 0, .int .i64 0, .bool false, .int .i64 0] 38)) (w.heap.size + 1) 42 #[.int .i64 0, .int .i64 0, .int .i64 0] := by
    have := (Blok.new (w.alloc (.cells #[.int .i64 m, .int .i64 d, .int .i64 s] 42)) 42 #[.int .i64 0, .int .i64 0, .int .i64 0]).alloc (.cells #[.int .i64 0, .int .i64 0, .bool false, .int .i64 0] 38)
    rwa [World.size_alloc] at this
  have b2 : Blok (((w.alloc (.cells #[.int .i64 m, .int .i64 d, .int .i64 s] 42)).alloc (.cells #[.int .i64 0, .int .i64 0, .int .i64 0] 42)).alloc (.cells #[.int .i64 0, .int .i64 0, .bool false, .int .i64 0] 38)) (w.heap.size + 1 + 1) 38 #[.int .i64 0, .int .i64 0, .bool false, .int .i64 0] := by
    have := Blok.new ((w.alloc (.cells #[.int .i64 m, .int .i64 d, .int .i64 s] 42)).alloc (.cells #[.int .i64 0, .int .i64 0, .int .i64 0] 42)) 38 #[.int .i64 0, .int .i64 0, .bool false, .int .i64 0]
    rwa [World.size_alloc, World.size_alloc] at this
  generalize hW0 : (((w.alloc (.cells #[.int .i64 m, .int .i64 d, .int .i64 s] 42)).alloc (.cells #[.int .i64 0, .int .i64 0, .int .i64 0] 42)).alloc (.cells #[.int .i64 0, .int .i64 0, .bool false, .int .i64 0] 38)) = W0 at *
  clear hW0
  refine (KR.out _ hb0).mono ?_
  rintro e w1 ⟨v, rfl, hv, hb1⟩
  obtain ⟨vt, vx, rfl⟩ := hv.held H0.out
  have hv1 := hb0.trans (hb1.mono hb0.size)
  have b1 := b1.kept hb1
  have b2 := b2.kept hb1
  have e0 := b1.cell 0 rfl
  have e1 := b1.cell 1 rfl
  have e2 := b1.cell 2 rfl
  have e3 := b2.cell 0 rfl
  have e4 := b2.cell 1 rfl
  have e5 := b2.cell 2 rfl
  have e6 := b2.cell 3 rfl
  have q0 := b1.frozen 0
  have q1 := b1.frozen 1
  have q2 := b1.frozen 2
  have q3 := b2.frozen 0
  have q4 := b2.frozen 1
  have q5 := b2.frozen 2
  have q6 := b2.frozen 3
  go_wp2
  refine bodyPost_ret (v := .tuple #[.agg #[.int .i64 0, .int .i64 0, .int .i64 0], .agg #[.int .i64 0, .int .i64 0, .bool false, .int .i64 0], .iface vt vx]) (by simp [results, Tryd.results19, go_sem, e0, e1, e2, e3, e4, e5, e6]) rfl ?_
  refine ⟨_, rfl, ?_, ?_⟩
  · repeat (first | (with_reducible exact hv) | (with_reducible refine ErrIs.setAt ?_ (by intro t p; simp [go_sem, *]) _ _))
  · repeat (first | (with_reducible exact hv1) | (with_reducible refine Below.setCell ?_ (by simp <;> omega) _))
set_option maxRecDepth 100000 in
set_option maxHeartbeats 800000 in
theorem step_full (ea : Nat → Addr) (a : Option Addr) (n cap : Nat) (l : List Int) (m d s : Int) (t : List UInt8) (w : World) (hg : Glob w ea [1, 2, 3, 4, 5, 7, 8]) (hn : l.length = n) (hr : RowAt w a (encInts l)) (hc : n ≤ 4611686018427387904)
    (h : (memRF l m d s).1 = 0) (hs : 1000000 ≤ s) :
    Calls Tryd.prog 19 #[.slice a n cap, .agg #[.int .i64 m, .int .i64 d, .int .i64 s], .string ⟨t.toArray⟩] w fun e w' =>
      ∃ v, e = .returned (.tuple #[.agg #[.int .i64 0, .int .i64 0, .int .i64 0], .agg #[.int .i64 0, .int .i64 0, .bool false, .int .i64 0], v]) ∧ ErrIs ea w' v 7 (-1) ∧ Below w.heap.size w w' := by
  have KR := Lib.hid (fun (W : World) (h : Below w.heap.size w W) => memRight_any ea a n cap l m d s W ((hg.below h).sub (by simp)) hn (hr.below h) hc)
  rw [(memRF_ok h).2.2.1] at KR
  simp only [if_true] at KR
  have HG := Lib.hid (fun (W : World) (h : Below w.heap.size w W) => hg.below h)
  have hb0 : Below w.heap.size w (((w.alloc (.cells #[.int .i64 m, .int .i64 d, .int .i64 s] 42)).alloc (.cells #[.int .i64 0, .int .i64 0, .int .i64 0] 42)).alloc (.cells #[.int .i64 0, .int .i64 0, .bool false, .int .i64 0] 38)) := (((Below.refl _ _).alloc (Nat.le_refl _) _).alloc (by simp) _).alloc (by simp; omega) _
  have HP := Lib.hid (errV_pos ea (k := 7) (by decide))
  generalize whoV l s.toNat = who at *
  clear hg hn hr h
  go_enter Tryd.func19, Tryd.ntmps19
  go_wp2_with fail
  have b0 : Blok (((w.alloc (.cells #[.int .i64 m, .int .i64 d, .int .i64 s] 42)).alloc (.cells #[.int .i64 0, .int .i64 0, .int .i64 0] 42)).alloc (.cells #[.int .i64 0, .int .i64 0, .bool false, .int .i64 0] 38)) w.heap.size 42 #[.int .i64 m, .int .i64 d, .int .i64 s] := ((Blok.new w _ _).alloc _).alloc _
  have b1 : Blok (((w.alloc (.cells #[.int .i64 m, .int .i64 d, .int .i64 s] 42)).alloc (.cells #[.int .i64 0, .int .i64 0, .int .i64 0] 42)).alloc (.cells #[.int .i64 0, .int .i64 0, .bool false, .int .i64 0] 38)) (w.heap.size + 1) 42 #[.int .i64 0, .int .i64 0, .int .i64 0] := by
    have := (Blok.new (w.alloc (.cells #[.int .i64 m, .int .i64 d, .int .i64 s] 42)) 42 #[.int .i64 0, .int .i64 0, .int .i64 0]).alloc (.cells #[.int .i64 0, .int .i64 0, .bool false, .int .i64 0] 38)
    rwa [World.size_alloc] at this
  have b2 : Blok (((w.alloc (.cells #[.int .i64 m, .int .i64 d, .int .i64 s] 42)).alloc (.cells #[.int .i64 0, .int .i64 0, .int .i64 0] 42)).alloc (.cells #[.int .i64 0, .int .i64 0, .bool false, .int .i64 0] 38)) (w.heap.size + 1 + 1) 38 #[.int .i64 0, .int .i64 0, .bool false, .int .i64 0] := by
    have := Blok.new ((w.alloc (.cells #[.int .i64 m, .int .i64 d, .int .i64 s] 42)).alloc (.cells #[.int .i64 0, .int .i64 0, .int .i64 0] 42)) 38 #[.int .i64 0, .int .i64 0, .bool false, .int .i64 0]
    rwa [World.size_alloc, World.size_alloc] at this
  generalize hW0 : (((w.alloc (.cells #[.int .i64 m, .int .i64 d, .int .i64 s] 42)).alloc (.cells #[.int .i64 0, .int .i64 0, .int .i64 0] 42)).alloc (.cells #[.int .i64 0, .int .i64 0, .bool false, .int .i64 0] 38)) = W0 at *
  clear hW0
  refine (KR.out _ hb0).mono ?_
  rintro e w1 ⟨v, rfl, hv, hb1⟩
  obtain rfl : v = .nilIface := hv.nil
  have hv1 := hb0.trans (hb1.mono hb0.size)
  have b1 := b1.kept hb1
  have b2 := b2.kept hb1
  have c2 := (b0.kept hb1).cell 2 rfl
  have g7 := (HG.out _ hv1).cell 7 (by simp)
  simp only [gOf] at g7
  rw [HP.out] at g7
  have e0 := b1.cell 0 rfl
  have e1 := b1.cell 1 rfl
  have e2 := b1.cell 2 rfl
  have e3 := b2.cell 0 rfl
  have e4 := b2.cell 1 rfl
  have e5 := b2.cell 2 rfl
  have e6 := b2.cell 3 rfl
  have q0 := b1.frozen 0
  have q1 := b1.frozen 1
  have q2 := b1.frozen 2
  have q3 := b2.frozen 0
  have q4 := b2.frozen 1
  have q5 := b2.frozen 2
  have q6 := b2.frozen 3
  go_wp2
  refine bodyPost_ret (v := .tuple #[.agg #[.int .i64 0, .int .i64 0, .int .i64 0], .agg #[.int .i64 0, .int .i64 0, .bool false, .int .i64 0], errV ea 7]) (by simp [results, Tryd.results19, go_sem, e0, e1, e2, e3, e4, e5, e6, HP.out]) rfl ?_
  refine ⟨_, rfl, ?_, ?_⟩
  · exact Or.inl ⟨rfl, rfl⟩
  · repeat (first | (with_reducible exact hv1) | (with_reducible refine Below.setCell ?_ (by simp <;> omega) _))

theorem step_any (ea : Nat → Addr) (a : Option Addr) (n cap : Nat) (l : List Int) (m d s : Int) (t : List UInt8) (w : World) (hg : Glob w ea [1, 2, 3, 4, 5, 7, 8]) (hT : TxtEnv w) (hn : l.length = n) (hr : RowAt w a (encInts l)) (hc : n ≤ 4611686018427387904) (ht : t.length ≤ 4294967280) :
    Calls Tryd.prog 19 #[.slice a n cap, .agg #[.int .i64 m, .int .i64 d, .int .i64 s], .string ⟨t.toArray⟩] w fun e w' =>
      ∃ v, e = .returned (.tuple #[.agg #[.int .i64 (stepV l m d s t).1, .int .i64 (stepV l m d s t).2.1, .int .i64 (stepV l m d s t).2.2], (stepE l m d s t).v, v]) ∧ ErrIs ea w' v (stepF l m d s).1 (stepF l m d s).2 ∧ Below w.heap.size w w' := by
  by_cases h : (memRF l m d s).1 = 0
  · by_cases hs : 1000000 ≤ s
    · have hF : stepF l m d s = (7, -1) := by rw [stepF, if_pos h, if_pos hs]
      have hV : stepV l m d s t = (0, 0, 0) := by rw [stepV, if_neg (by rw [hF]; simp)]
      have hE : stepE l m d s t = ⟨0, 0, false, 0⟩ := by rw [stepE, if_neg (by rw [hF]; simp)]
      rw [hF, hV, hE]
      exact step_full ea a n cap l m d s t w hg hn hr hc h hs
    · have hF : stepF l m d s = (0, -1) := by rw [stepF, if_pos h, if_neg hs]
      obtain ⟨k, rfl⟩ : ∃ k : Nat, m = k := by
        obtain ⟨hcm, _⟩ := viewE_zero (memRF_ok h).2.1
        simp only [crewB, decide_eq_true_eq] at hcm
        exact ⟨m.toNat, by omega⟩
      have hV : stepV l k d s t = ((stepM l k d s t : Int), d, s + 1) := by rw [stepV, if_pos (by rw [hF])]
      have hE : stepE l k d s t = ⟨s, whoV l s.toNat, stepOk l k d s t, if stepOk l k d s t then (frameF t).2.value else 0⟩ := by rw [stepE, if_pos (by rw [hF])]
      rw [hF, hV, hE]
      cases hok : stepOk l k d s t
      · have hM : stepM l k d s t = lessN (k ||| bitOf (whoV l s.toNat)) (bitOf (whoV l s.toNat)) := by rw [stepM, hok]; rfl
        rw [hM]
        have hcase : (frameF t).1 ≠ 0 ∨ ((frameF t).1 = 0 ∧ (frameF t).2.frm ≠ whoV l s.toNat) ∨ ((frameF t).1 = 0 ∧ (frameF t).2.frm = whoV l s.toNat ∧ ¬ ((frameF t).2.mem = ((k ||| bitOf (whoV l s.toNat) : Nat) : Int) ∧ (frameF t).2.mode = d ∧ (frameF t).2.slot = s)) := by
          by_cases h1 : (frameF t).1 = 0
          · by_cases h2 : (frameF t).2.frm = whoV l s.toNat
            · refine .inr (.inr ⟨h1, h2, fun h3 => ?_⟩)
              rw [stepOk, stepB, decide_eq_false_iff_not] at hok
              exact hok ⟨h1, h2, h3⟩
            · exact .inr (.inl ⟨h1, h2⟩)
          · exact .inl h1
        rcases hcase with h1 | ⟨h1, h2⟩ | ⟨h1, h2, h3⟩
        · refine (step_err ea a n cap l k d s t w hg hT hn hr hc ht h (by omega) h1).mono ?_
          rintro e w' ⟨rfl, hb⟩
          exact ⟨_, rfl, Or.inl ⟨rfl, (errV_zero ea).symm⟩, hb⟩
        · refine (step_from ea a n cap l k d s t w hg hT hn hr hc ht h (by omega) h1 h2).mono ?_
          rintro e w' ⟨rfl, hb⟩
          exact ⟨_, rfl, Or.inl ⟨rfl, (errV_zero ea).symm⟩, hb⟩
        · refine (step_view ea a n cap l k d s t w hg hT hn hr hc ht h (by omega) h1 h2 h3).mono ?_
          rintro e w' ⟨rfl, hb⟩
          exact ⟨_, rfl, Or.inl ⟨rfl, (errV_zero ea).symm⟩, hb⟩
      · have hM : stepM l k d s t = k ||| bitOf (whoV l s.toNat) := by rw [stepM, hok]; rfl
        rw [hM]
        refine (step_heard ea a n cap l k d s t w hg hT hn hr hc ht h (by omega) hok).mono ?_
        rintro e w' ⟨rfl, hb⟩
        exact ⟨_, rfl, Or.inl ⟨rfl, (errV_zero ea).symm⟩, hb⟩
  · have hF : stepF l m d s = memRF l m d s := by rw [stepF, if_neg h]
    have hV : stepV l m d s t = (0, 0, 0) := by rw [stepV, if_neg (by rw [hF]; exact h)]
    have hE : stepE l m d s t = ⟨0, 0, false, 0⟩ := by rw [stepE, if_neg (by rw [hF]; exact h)]
    rw [hF, hV, hE]
    exact step_bad ea a n cap l m d s t w hg hn hr hc h

/-- The frame that member.Send makes. -/
def sendFrm (_l : List Int) (m d s node value : Int) : Frm := ⟨node, ((m.toNat ||| bitOf node : Nat) : Int), d, s, value⟩
def sendF (l : List Int) (m d s node value : Int) : Nat × Int := if (memRF l m d s).1 = 0 then (if whoV l s.toNat = node then (frameE (sendFrm l m d s node value), -1) else (9, -1)) else memRF l m d s
def sendT (l : List Int) (m d s node value : Int) : List UInt8 := if (memRF l m d s).1 = 0 ∧ whoV l s.toNat = node then makeF (sendFrm l m d s node value) else []
set_option maxRecDepth 100000 in
set_option maxHeartbeats 1600000 in
theorem send_any (ea : Nat → Addr) (a : Option Addr) (n cap : Nat) (l : List Int) (m d s node value : Int) (w : World) (hg : Glob w ea [2, 3, 4, 5, 7, 9]) (hT : TxtEnv w) (hn : l.length = n) (hr : RowAt w a (encInts l)) (hc : n ≤ 4611686018427387904) :
    Calls Tryd.prog 18 #[.slice a n cap, .agg #[.int .i64 m, .int .i64 d, .int .i64 s], .int .i64 node, .int .i64 value] w fun e w' =>
      ∃ v, e = .returned (.tuple #[.string ⟨(sendT l m d s node value).toArray⟩, v]) ∧ ErrIs ea w' v (sendF l m d s node value).1 (sendF l m d s node value).2 ∧ Below w.heap.size w w' := by
  have KR := Lib.hid (fun (W : World) (h : Below w.heap.size w W) => memRight_any ea a n cap l m d s W ((hg.below h).sub (by simp)) hn (hr.below h) hc)
  have hb0 : Below w.heap.size w (w.alloc (.cells #[.int .i64 m, .int .i64 d, .int .i64 s] 42)) := (Below.refl _ _).alloc (Nat.le_refl _) _
  have hb1' := hb0
  by_cases h : (memRF l m d s).1 = 0
  · rw [(memRF_ok h).2.2.1] at KR
    simp only [if_true] at KR
    by_cases hw : whoV l s.toNat = node
    · have hF : sendF l m d s node value = (frameE (sendFrm l m d s node value), -1) := by rw [sendF, if_pos h, if_pos hw]
      have hT' : sendT l m d s node value = makeF (sendFrm l m d s node value) := by rw [sendT, if_pos ⟨h, hw⟩]
      obtain ⟨hp, hv, _, _⟩ := memRF_ok h
      obtain ⟨hcm, hvd⟩ := viewE_zero hv
      have hnd : nodeB node = true := by rw [← hw]; exact (planF_ok hp).2.2.2 _ (whoV_mem l _ (planF_ok hp).2.1)
      obtain ⟨k, rfl⟩ : ∃ k : Nat, m = k := by
        simp only [crewB, decide_eq_true_eq] at hcm
        exact ⟨m.toNat, by omega⟩
      have hk : k < 65536 := by simp only [crewB, decide_eq_true_eq] at hcm; omega
      have KW := Lib.hid (fun (W : World) => with_any k d s node W hk hnd)
      have KM := Lib.hid (fun (W : World) (h : Below w.heap.size w W) => make_any ea node ((k ||| bitOf node : Nat) : Int) d s value W ((hg.below h).sub (by simp)) (hT.below h))
      have hfr : sendFrm l k d s node value = ⟨node, ((k ||| bitOf node : Nat) : Int), d, s, value⟩ := rfl
      rw [hF, hT', hfr]
      rw [hw] at KR
      generalize k ||| bitOf node = M at *
      generalize makeF ⟨node, (M : Int), d, s, value⟩ = tx at *
      generalize frameE ⟨node, (M : Int), d, s, value⟩ = fe at *
      clear hg hT hn hr h hw hF hT' hp hv hcm hvd hnd hfr
      go_enter Tryd.func18, Tryd.ntmps18
      go_wp2_with fail
      refine (KR.out _ hb0).mono ?_
      rintro e w1 ⟨v, rfl, hv, hb1⟩
      obtain rfl : v = .nilIface := hv.nil
      have hv1 := hb0.trans (hb1.mono hb0.size)
      have b0 := (Blok.new w 42 #[.int .i64 k, .int .i64 d, .int .i64 s]).kept hb1
      have c0 := b0.cell 0 rfl
      have c1 := b0.cell 1 rfl
      have c2 := b0.cell 2 rfl
      go_wp2_with fail
      refine (KW.out _).mono ?_
      rintro e w2 ⟨rfl, hb2⟩
      have hv2 := hv1.trans (hb2.mono hv1.size)
      go_wp2_with fail
      refine (KM.out _ hv2).mono ?_
      rintro e w3 ⟨rfl, hb3⟩
      go_wp2
      go_ret2
      exact ⟨_, rfl, Or.inl ⟨rfl, rfl⟩, hv2.trans (hb3.mono hv2.size)⟩
    · have hF : sendF l m d s node value = (9, -1) := by rw [sendF, if_pos h, if_neg hw]
      have hT' : sendT l m d s node value = [] := by rw [sendT, if_neg (fun e => hw e.2)]
      rw [hF, hT']
      have HG := Lib.hid (fun (W : World) (h : Below w.heap.size w W) => hg.below h)
      have hwb : (whoV l s.toNat != node) = true := by simpa using hw
      generalize whoV l s.toNat = who at *
      clear hg hT hn hr h hw hF hT'
      go_enter Tryd.func18, Tryd.ntmps18
      go_wp2_with fail
      refine (KR.out _ hb0).mono ?_
      rintro e w1 ⟨v, rfl, hv, hb1⟩
      obtain rfl : v = .nilIface := hv.nil
      have hv1 := hb0.trans (hb1.mono hb0.size)
      have g9 := (HG.out _ hv1).cell 9 (by simp)
      simp only [gOf] at g9
      go_wp2
      go_region
      all_goals
        go_wp2
        go_ret2
        exact ⟨_, rfl, Or.inl ⟨rfl, rfl⟩, hv1.drew⟩
  · have hF : sendF l m d s node value = memRF l m d s := by rw [sendF, if_neg h]
    have hT' : sendT l m d s node value = [] := by rw [sendT, if_neg (fun e => h e.1)]
    rw [hF, hT']
    rw [if_neg h] at KR
    have H0 := Lib.hid h
    clear hg hT hn hr h hF hT'
    go_enter Tryd.func18, Tryd.ntmps18
    go_wp2_with fail
    refine (KR.out _ hb0).mono ?_
    rintro e w1 ⟨v, rfl, hv, hb1⟩
    obtain ⟨vt, vx, rfl⟩ := hv.held H0.out
    go_wp2
    go_ret2
    exact ⟨_, rfl, hv, hb0.trans (hb1.mono hb0.size)⟩
end Go.Proofs.YtbfocagicagehaaDoor
