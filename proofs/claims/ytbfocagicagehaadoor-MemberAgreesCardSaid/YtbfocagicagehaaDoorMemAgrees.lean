/- MemberAgrees: the law's walk. -/
import Derived.Test.YtbfocagicagehaaDoorMemSlot
namespace Go.Proofs.YtbfocagicagehaaDoor
open Go.RowKit

/-- All but the sender alike, of the nodes up to k. -/
def alikeTo (u v who : Int) : Nat → Bool
  | 0 => true
  | k + 1 => alikeTo u v who k && (((k : Int) + 1 == who) || (hasB u ((k : Int) + 1) == hasB v ((k : Int) + 1)))
theorem alikeTo_iff (u v who : Int) : ∀ k, alikeTo u v who k = true ↔ ∀ j : Nat, j < k → ((j : Int) + 1 = who ∨ hasB u ((j : Int) + 1) = hasB v ((j : Int) + 1))
  | 0 => by simp [alikeTo]
  | k + 1 => by
    rw [alikeTo, Bool.and_eq_true, alikeTo_iff u v who k, Bool.or_eq_true, beq_iff_eq, beq_iff_eq]
    constructor
    · rintro ⟨h1, h2⟩ j hj
      by_cases e : j = k
      · subst e; exact h2
      · exact h1 j (by omega)
    · intro h
      exact ⟨fun j hj => h j (by omega), h k (by omega)⟩
/-- Two crews that are alike but for one node are one with it. -/
theorem or_alike {a b : Nat} {who : Int} (ha : a < 65536) (hb : b < 65536) (hw : nodeB who = true) : alikeTo a b who 16 = true ↔ a ||| bitOf who = b ||| bitOf who := by
  rw [alikeTo_iff]
  have hw' := hw
  simp only [nodeB, decide_eq_true_eq] at hw'
  constructor
  · intro h
    apply Nat.eq_of_testBit_eq
    intro i
    rw [Nat.testBit_or, Nat.testBit_or]
    by_cases hi : i < 16
    · rcases h i hi with h1 | h1
      · have : (bitOf who).testBit i = true := by rw [bitOf, Nat.testBit_two_pow]; simp; omega
        rw [this]; simp
      · rw [hasB_bit a i ha hi, hasB_bit b i hb hi] at h1
        rw [h1]
    · have h1 : a.testBit i = false := Nat.testBit_lt_two_pow (Nat.lt_of_lt_of_le ha (Nat.pow_le_pow_right (n := 2) (by omega) (show 16 ≤ i by omega)))
      have h2 : b.testBit i = false := Nat.testBit_lt_two_pow (Nat.lt_of_lt_of_le hb (Nat.pow_le_pow_right (n := 2) (by omega) (show 16 ≤ i by omega)))
      rw [h1, h2]
  · intro h j hj
    by_cases e : (j : Int) + 1 = who
    · exact .inl e
    · right
      rw [hasB_bit a j ha hj, hasB_bit b j hb hj]
      have h1 := congrArg (fun n => Nat.testBit n j) h
      simp only [Nat.testBit_or] at h1
      have : (bitOf who).testBit j = false := by rw [bitOf, Nat.testBit_two_pow]; simp only [decide_eq_false_iff_not]; omega
      rwa [this, Bool.or_false, Bool.or_false] at h1

/-- The plan of a seat: whose slot, of a view that is right. -/
theorem send_frm_E {l : List Int} {m d s value : Int} (h : (memRF l m d s).1 = 0) : frameE (sendFrm l m d s (whoV l s.toNat) value) = if numB value then 0 else 2 := by
  obtain ⟨hp, hv, _, _⟩ := memRF_ok h
  obtain ⟨hcm, hvd⟩ := viewE_zero hv
  have hnd : nodeB (whoV l s.toNat) = true := (planF_ok hp).2.2.2 _ (whoV_mem l _ (planF_ok hp).2.1)
  have hm : m.toNat < 65536 := by simp only [crewB, decide_eq_true_eq] at hcm; omega
  have hor : m.toNat ||| bitOf (whoV l s.toNat) < 65536 := Nat.or_lt_two_pow (n := 16) hm (bitOf_lt hnd)
  have h1 : crewB ((m.toNat ||| bitOf (whoV l s.toNat) : Nat) : Int) = true := by simp only [crewB, decide_eq_true_eq]; omega
  have h2 : hasB ((m.toNat ||| bitOf (whoV l s.toNat) : Nat) : Int) (whoV l s.toNat) = true := by
    rw [hasB_nat hor hnd, Nat.testBit_or, bitOf, Nat.testBit_two_pow]; simp
  simp only [frameE, sendFrm, hnd, h1, h2, hvd, if_true, Bool.true_and]
/-- What is sent is heard by who has the view, and its members then. -/
theorem agrees_own {l : List Int} {m d s value : Int} (h : (memRF l m d s).1 = 0) (hn : numB value = true) :
    stepOk l m d s (frameT (sendFrm l m d s (whoV l s.toNat) value)) = true ∧ (frameF (frameT (sendFrm l m d s (whoV l s.toNat) value))).2.value = value := by
  have hE : frameE (sendFrm l m d s (whoV l s.toNat) value) = 0 := by rw [send_frm_E h, if_pos hn]
  rw [stepOk, stepB, make_read hE]
  simp [sendFrm]
/-- Another view hears it if it is the same, but for the sender. -/
theorem agrees_other {l : List Int} {m d s m' d' s' value : Int} (h : (memRF l m d s).1 = 0) (h' : (memRF l m' d' s').1 = 0) (hn : numB value = true) :
    stepOk l m' d' s' (frameT (sendFrm l m d s (whoV l s.toNat) value)) = (d' == d && s' == s && alikeTo m' m (whoV l s.toNat) 16) := by
  have hE : frameE (sendFrm l m d s (whoV l s.toNat) value) = 0 := by rw [send_frm_E h, if_pos hn]
  obtain ⟨hp, hv, _, _⟩ := memRF_ok h
  obtain ⟨hcm, hvd⟩ := viewE_zero hv
  obtain ⟨_, hv', _, _⟩ := memRF_ok h'
  obtain ⟨hcm', hvd'⟩ := viewE_zero hv'
  have hnd : nodeB (whoV l s.toNat) = true := (planF_ok hp).2.2.2 _ (whoV_mem l _ (planF_ok hp).2.1)
  simp only [crewB, decide_eq_true_eq] at hcm hcm'
  have ha := or_alike (a := m'.toNat) (b := m.toNat) (who := whoV l s.toNat) (by omega) (by omega) hnd
  rw [show ((m'.toNat : Nat) : Int) = m' by omega, show ((m.toNat : Nat) : Int) = m by omega] at ha
  rw [stepOk, stepB, make_read hE, Bool.eq_iff_iff]
  simp only [sendFrm, decide_eq_true_eq, Bool.and_eq_true, beq_iff_eq, true_and]
  constructor
  · rintro ⟨h1, h2, h3, h4⟩
    refine ⟨⟨h3.symm, h4.symm⟩, ha.2 ?_⟩
    rw [← h4] at h2 
    exact (Int.ofNat_inj.1 h2).symm
  · rintro ⟨⟨rfl, rfl⟩, h3⟩
    exact ⟨rfl, by rw [ha.1 h3], rfl, rfl⟩
/-- All that the law needs of the two steps. -/
theorem agrees_eq {l : List Int} {m d s m' d' s' value : Int} (h : (memRF l m d s).1 = 0) (h' : (memRF l m' d' s').1 = 0) (hn : numB value = true)
    (hsm : (d' == d && s' == s && alikeTo m' m (whoV l s.toNat) 16) = true) :
    stepM l m' d' s' (frameT (sendFrm l m d s (whoV l s.toNat) value)) = stepM l m d s (frameT (sendFrm l m d s (whoV l s.toNat) value)) ∧ d' = d ∧ s' = s := by
  have h1 := agrees_other h h' hn
  rw [hsm] at h1
  have h2 := (agrees_own h hn).1
  simp only [Bool.and_eq_true, beq_iff_eq] at hsm
  obtain ⟨⟨rfl, rfl⟩, h3⟩ := hsm
  obtain ⟨hp, hv, _, _⟩ := memRF_ok h
  obtain ⟨hcm, hvd⟩ := viewE_zero hv
  obtain ⟨_, hv', _, _⟩ := memRF_ok h'
  obtain ⟨hcm', hvd'⟩ := viewE_zero hv'
  have hnd : nodeB (whoV l s'.toNat) = true := (planF_ok hp).2.2.2 _ (whoV_mem l _ (planF_ok hp).2.1)
  simp only [crewB, decide_eq_true_eq] at hcm hcm'
  have ha := or_alike (a := m'.toNat) (b := m.toNat) (who := whoV l s'.toNat) (by omega) (by omega) hnd
  rw [show ((m'.toNat : Nat) : Int) = m' by omega, show ((m.toNat : Nat) : Int) = m by omega] at ha
  refine ⟨?_, rfl, rfl⟩
  rw [stepM, stepM, h1, h2, if_pos rfl, if_pos rfl]
  exact ha.1 h3

set_option maxRecDepth 100000 in
set_option maxHeartbeats 1600000 in
theorem memAgrees_long (ea : Nat → Addr) (a : Option Addr) (n cap : Nat) (l : List Int) (m d s m' d' s' value : Int) (w : World) (hg : Glob w ea [1, 2, 3, 4, 5, 7, 8, 9]) (hT : TxtEnv w) (hn : l.length = n) (hr : RowAt w a (encInts l)) (hc : n ≤ 4611686018427387904)
    (h : 40 < n ∨ (planF l).1 ≠ 0 ∨ viewE m d s ≠ 0 ∨ viewE m' d' s' ≠ 0 ∨ s = 1000000 ∨ s' = 1000000) :
    Calls Tryd.prog 4 #[.slice a n cap, .agg #[.int .i64 m, .int .i64 d, .int .i64 s], .agg #[.int .i64 m', .int .i64 d', .int .i64 s'], .int .i64 value] w fun e w' => e = .returned (.bool true) ∧ Below w.heap.size w w' := by
  have hb0 : Below w.heap.size w ((w.alloc (.cells #[.int .i64 m, .int .i64 d, .int .i64 s] 42)).alloc (.cells #[.int .i64 m', .int .i64 d', .int .i64 s'] 42)) := ((Below.refl _ _).alloc (Nat.le_refl _) _).alloc (by simp) _
  have K0 := Lib.hid (stepped_any ea _ (hg.below hb0) (hT.below hb0))
  have KP := Lib.hid (fun (W : World) (hb : Below w.heap.size w W) => planCheck_any ea a n cap l W ((hg.below hb).sub (by simp)) hn (hr.below hb) hc)
  have KV := Lib.hid (fun (W : World) (hb : Below w.heap.size w W) => memCheck_any ea m d s W ((hg.below hb).sub (by simp)))
  have KU := Lib.hid (fun (W : World) (hb : Below w.heap.size w W) => memCheck_any ea m' d' s' W ((hg.below hb).sub (by simp)))
  clear hg hT hn hr
  by_cases h1 : 40 < n
  · clear h
    go_enter Tryd.func4, Tryd.ntmps4
    go_wp2_with fail
    refine K0.out.mono ?_
    rintro e w1 ⟨rfl, hb1⟩
    go_wp2
    go_ret
    exact ⟨rfl, hb0.trans (hb1.mono hb0.size)⟩
  · have d1 : decide ((40 : Int) < (n : Int)) = false := by simp; omega
    by_cases h2 : (planF l).1 = 0
    · rw [(planF_ok h2).1] at KP
      by_cases h3 : viewE m d s = 0
      · rw [h3, errV_zero] at KV
        by_cases h4 : viewE m' d' s' = 0
        · rw [h4, errV_zero] at KU
          by_cases h5 : s = 1000000
          · have d5 : (s == 1000000) = true := by simpa using h5
            clear h h2 h3 h4 h5
            go_enter Tryd.func4, Tryd.ntmps4
            go_wp2_with fail
            refine K0.out.mono ?_
            rintro e w1 ⟨rfl, hb1⟩
            have hv1 := hb0.trans (hb1.mono hb0.size)
            have b0 := ((Blok.new w 42 #[.int .i64 m, .int .i64 d, .int .i64 s]).alloc (.cells #[.int .i64 m', .int .i64 d', .int .i64 s'] 42)).kept hb1
            have b1 := Blok.new (w.alloc (.cells #[.int .i64 m, .int .i64 d, .int .i64 s] 42)) 42 #[.int .i64 m', .int .i64 d', .int .i64 s']
            rw [World.size_alloc] at b1
            have b1 := b1.kept hb1
            go_wp2_with fail
            refine (KP.out _ hv1).mono ?_
            rintro e w2 ⟨v, rfl, hv, hb2⟩
            obtain rfl : v = .nilIface := hv.nil
            have hv2 := hv1.trans (hb2.mono hv1.size)
            have b0 := b0.kept hb2
            have b1 := b1.kept hb2
            have c0 := b0.cell 0 rfl
            have c1 := b0.cell 1 rfl
            have c2 := b0.cell 2 rfl
            have c3 := b1.cell 0 rfl
            have c4 := b1.cell 1 rfl
            have c5 := b1.cell 2 rfl
            go_wp2_with fail
            refine (KV.out _ hv2).mono ?_
            rintro e w3 ⟨rfl, hb3⟩
            have hv3 := hv2.trans (hb3.mono hv2.size)
            have b0 := b0.kept hb3
            have b1 := b1.kept hb3
            clear hb1 hb2 hv
            clear c0 c1 c2 c3 c4 c5
            have c2 := b0.cell 2 rfl
            have c3 := b1.cell 0 rfl
            have c4 := b1.cell 1 rfl
            have c5 := b1.cell 2 rfl
            go_wp2_with fail
            refine (KU.out _ hv3).mono ?_
            rintro e w4 ⟨rfl, hb4⟩
            have hv4 := hv3.trans (hb4.mono hv3.size)
            have b0 := b0.kept hb4
            have b1 := b1.kept hb4
            clear hb3 hb4 c2 c3 c4 c5
            have c0 := b0.cell 0 rfl
            have c1 := b0.cell 1 rfl
            have c2 := b0.cell 2 rfl
            have c3 := b1.cell 0 rfl
            have c4 := b1.cell 1 rfl
            have c5 := b1.cell 2 rfl
            go_wp2
            go_ret
            exact ⟨rfl, hv4⟩
          · have h6 : s' = 1000000 := by omega
            have d5 : (s == 1000000) = false := by simpa using h5
            have d6 : (s' == 1000000) = true := by simpa using h6
            clear h h2 h3 h4 h5 h6
            go_enter Tryd.func4, Tryd.ntmps4
            go_wp2_with fail
            refine K0.out.mono ?_
            rintro e w1 ⟨rfl, hb1⟩
            have hv1 := hb0.trans (hb1.mono hb0.size)
            have b0 := ((Blok.new w 42 #[.int .i64 m, .int .i64 d, .int .i64 s]).alloc (.cells #[.int .i64 m', .int .i64 d', .int .i64 s'] 42)).kept hb1
            have b1 := Blok.new (w.alloc (.cells #[.int .i64 m, .int .i64 d, .int .i64 s] 42)) 42 #[.int .i64 m', .int .i64 d', .int .i64 s']
            rw [World.size_alloc] at b1
            have b1 := b1.kept hb1
            go_wp2_with fail
            refine (KP.out _ hv1).mono ?_
            rintro e w2 ⟨v, rfl, hv, hb2⟩
            obtain rfl : v = .nilIface := hv.nil
            have hv2 := hv1.trans (hb2.mono hv1.size)
            have b0 := b0.kept hb2
            have b1 := b1.kept hb2
            have c0 := b0.cell 0 rfl
            have c1 := b0.cell 1 rfl
            have c2 := b0.cell 2 rfl
            have c3 := b1.cell 0 rfl
            have c4 := b1.cell 1 rfl
            have c5 := b1.cell 2 rfl
            go_wp2_with fail
            refine (KV.out _ hv2).mono ?_
            rintro e w3 ⟨rfl, hb3⟩
            have hv3 := hv2.trans (hb3.mono hv2.size)
            have b0 := b0.kept hb3
            have b1 := b1.kept hb3
            clear hb1 hb2 hv
            clear c0 c1 c2 c3 c4 c5
            have c2 := b0.cell 2 rfl
            have c3 := b1.cell 0 rfl
            have c4 := b1.cell 1 rfl
            have c5 := b1.cell 2 rfl
            go_wp2_with fail
            refine (KU.out _ hv3).mono ?_
            rintro e w4 ⟨rfl, hb4⟩
            have hv4 := hv3.trans (hb4.mono hv3.size)
            have b0 := b0.kept hb4
            have b1 := b1.kept hb4
            clear hb3 hb4 c2 c3 c4 c5
            have c0 := b0.cell 0 rfl
            have c1 := b0.cell 1 rfl
            have c2 := b0.cell 2 rfl
            have c3 := b1.cell 0 rfl
            have c4 := b1.cell 1 rfl
            have c5 := b1.cell 2 rfl
            go_wp2
            go_ret
            exact ⟨rfl, hv4⟩
        · rw [errV_pos ea h4] at KU
          clear h h2 h3 h4
          go_enter Tryd.func4, Tryd.ntmps4
          go_wp2_with fail
          refine K0.out.mono ?_
          rintro e w1 ⟨rfl, hb1⟩
          have hv1 := hb0.trans (hb1.mono hb0.size)
          have b0 := ((Blok.new w 42 #[.int .i64 m, .int .i64 d, .int .i64 s]).alloc (.cells #[.int .i64 m', .int .i64 d', .int .i64 s'] 42)).kept hb1
          have b1 := Blok.new (w.alloc (.cells #[.int .i64 m, .int .i64 d, .int .i64 s] 42)) 42 #[.int .i64 m', .int .i64 d', .int .i64 s']
          rw [World.size_alloc] at b1
          have b1 := b1.kept hb1
          go_wp2_with fail
          refine (KP.out _ hv1).mono ?_
          rintro e w2 ⟨v, rfl, hv, hb2⟩
          obtain rfl : v = .nilIface := hv.nil
          have hv2 := hv1.trans (hb2.mono hv1.size)
          have b0 := b0.kept hb2
          have b1 := b1.kept hb2
          have c0 := b0.cell 0 rfl
          have c1 := b0.cell 1 rfl
          have c2 := b0.cell 2 rfl
          have c3 := b1.cell 0 rfl
          have c4 := b1.cell 1 rfl
          have c5 := b1.cell 2 rfl
          go_wp2_with fail
          refine (KV.out _ hv2).mono ?_
          rintro e w3 ⟨rfl, hb3⟩
          have hv3 := hv2.trans (hb3.mono hv2.size)
          have b0 := b0.kept hb3
          have b1 := b1.kept hb3
          clear hb1 hb2 hv
          clear c0 c1 c2 c3 c4 c5
          have c2 := b0.cell 2 rfl
          have c3 := b1.cell 0 rfl
          have c4 := b1.cell 1 rfl
          have c5 := b1.cell 2 rfl
          go_wp2_with fail
          refine (KU.out _ hv3).mono ?_
          rintro e w4 ⟨rfl, hb4⟩
          have hv4 := hv3.trans (hb4.mono hv3.size)
          have b0 := b0.kept hb4
          have b1 := b1.kept hb4
          clear hb3 hb4 c2 c3 c4 c5
          have c0 := b0.cell 0 rfl
          have c1 := b0.cell 1 rfl
          have c2 := b0.cell 2 rfl
          have c3 := b1.cell 0 rfl
          have c4 := b1.cell 1 rfl
          have c5 := b1.cell 2 rfl
          go_wp2
          go_ret
          exact ⟨rfl, hv4⟩
      · rw [errV_pos ea h3] at KV
        clear h h2 h3
        go_enter Tryd.func4, Tryd.ntmps4
        go_wp2_with fail
        refine K0.out.mono ?_
        rintro e w1 ⟨rfl, hb1⟩
        have hv1 := hb0.trans (hb1.mono hb0.size)
        have b0 := ((Blok.new w 42 #[.int .i64 m, .int .i64 d, .int .i64 s]).alloc (.cells #[.int .i64 m', .int .i64 d', .int .i64 s'] 42)).kept hb1
        have b1 := Blok.new (w.alloc (.cells #[.int .i64 m, .int .i64 d, .int .i64 s] 42)) 42 #[.int .i64 m', .int .i64 d', .int .i64 s']
        rw [World.size_alloc] at b1
        have b1 := b1.kept hb1
        go_wp2_with fail
        refine (KP.out _ hv1).mono ?_
        rintro e w2 ⟨v, rfl, hv, hb2⟩
        obtain rfl : v = .nilIface := hv.nil
        have hv2 := hv1.trans (hb2.mono hv1.size)
        have b0 := b0.kept hb2
        have b1 := b1.kept hb2
        have c0 := b0.cell 0 rfl
        have c1 := b0.cell 1 rfl
        have c2 := b0.cell 2 rfl
        have c3 := b1.cell 0 rfl
        have c4 := b1.cell 1 rfl
        have c5 := b1.cell 2 rfl
        go_wp2_with fail
        refine (KV.out _ hv2).mono ?_
        rintro e w3 ⟨rfl, hb3⟩
        have hv3 := hv2.trans (hb3.mono hv2.size)
        have b0 := b0.kept hb3
        have b1 := b1.kept hb3
        clear hb1 hb2 hv
        go_wp2
        go_ret
        exact ⟨rfl, hv3⟩
    · have H2 := Lib.hid h2
      clear h h2
      go_enter Tryd.func4, Tryd.ntmps4
      go_wp2_with fail
      refine K0.out.mono ?_
      rintro e w1 ⟨rfl, hb1⟩
      have hv1 := hb0.trans (hb1.mono hb0.size)
      go_wp2_with fail
      refine (KP.out _ hv1).mono ?_
      rintro e w2 ⟨v, rfl, hv, hb2⟩
      obtain ⟨vt, vx, rfl⟩ := hv.held H2.out
      go_wp2
      go_ret
      exact ⟨rfl, hv1.trans (hb2.mono hv1.size)⟩

set_option maxRecDepth 400000 in
set_option maxHeartbeats 3200000 in
theorem memAgrees_off (ea : Nat → Addr) (a : Option Addr) (n cap : Nat) (l : List Int) (m d s m' d' s' value : Int) (w : World) (hg : Glob w ea [1, 2, 3, 4, 5, 7, 8, 9]) (hT : TxtEnv w) (hn : l.length = n) (hr : RowAt w a (encInts l)) (h40 : n ≤ 40)
    (h : (memRF l m d s).1 = 0) (h' : (memRF l m' d' s').1 = 0) (hs : s ≠ 1000000) (hs' : s' ≠ 1000000) (hnb : numB value = false) :
    Calls Tryd.prog 4 #[.slice a n cap, .agg #[.int .i64 m, .int .i64 d, .int .i64 s], .agg #[.int .i64 m', .int .i64 d', .int .i64 s'], .int .i64 value] w fun e w' => e = .returned (.bool true) ∧ Below w.heap.size w w' := by
  have hb0 : Below w.heap.size w ((w.alloc (.cells #[.int .i64 m, .int .i64 d, .int .i64 s] 42)).alloc (.cells #[.int .i64 m', .int .i64 d', .int .i64 s'] 42)) := ((Below.refl _ _).alloc (Nat.le_refl _) _).alloc (by simp) _
  have K0 := Lib.hid (stepped_any ea _ (hg.below hb0) (hT.below hb0))
  have KP := Lib.hid (fun (W : World) (hb : Below w.heap.size w W) => planCheck_any ea a n cap l W ((hg.below hb).sub (by simp)) hn (hr.below hb) (by omega))
  have KV := Lib.hid (fun (W : World) (hb : Below w.heap.size w W) => memCheck_any ea m d s W ((hg.below hb).sub (by simp)))
  have KU := Lib.hid (fun (W : World) (hb : Below w.heap.size w W) => memCheck_any ea m' d' s' W ((hg.below hb).sub (by simp)))
  have KW := Lib.hid (fun (W : World) (hb : Below w.heap.size w W) => who_any ea a n cap l s W ((hg.below hb).sub (by simp)) hn (hr.below hb) (by omega))
  have KS := Lib.hid (fun (W : World) (hb : Below w.heap.size w W) => send_any ea a n cap l m d s (whoV l s.toNat) value W ((hg.below hb).sub (by simp)) (hT.below hb) hn (hr.below hb) (by omega))
  obtain ⟨hp, hv, _, hR⟩ := memRF_ok h
  have hv' := (memRF_ok h').2.1
  rw [(planF_ok hp).1] at KP
  rw [hv, errV_zero] at KV
  rw [hv', errV_zero] at KU
  rw [whoF, if_pos hR, rightF_zero hR] at KW
  have hE : frameE (sendFrm l m d s (whoV l s.toNat) value) = 2 := by rw [send_frm_E h, if_neg (by simp [hnb])]
  rw [sendF, if_pos h, if_pos rfl, sendT, if_pos ⟨h, rfl⟩, makeF, hE, if_neg (by omega)] at KS
  have hnb' : value < -1048576 ∨ 1048576 < value := by
    rw [numB, decide_eq_false_iff_not] at hnb; omega
  have d1 : decide ((40 : Int) < (n : Int)) = false := by simp; omega
  have d5 : (s == 1000000) = false := by simpa using hs
  have d6 : (s' == 1000000) = false := by simpa using hs'
  generalize whoV l s.toNat = who at *
  clear hg hT hn hr h h' hs hs' hnb hp hv hR hv' hE
  have dv : value < -1048576 ∨ (decide (value < -1048576) = false ∧ 1048576 < value) := by simp; omega
  clear hnb'
  rcases dv with dv | ⟨dv, dv2⟩
  all_goals
    go_enter Tryd.func4, Tryd.ntmps4
    go_wp2_with fail
    refine K0.out.mono ?_
    rintro e w1 ⟨rfl, hb1⟩
    have hv1 := hb0.trans (hb1.mono hb0.size)
    have b0 := ((Blok.new w 42 #[.int .i64 m, .int .i64 d, .int .i64 s]).alloc (.cells #[.int .i64 m', .int .i64 d', .int .i64 s'] 42)).kept hb1
    have b1 := Blok.new (w.alloc (.cells #[.int .i64 m, .int .i64 d, .int .i64 s] 42)) 42 #[.int .i64 m', .int .i64 d', .int .i64 s']
    rw [World.size_alloc] at b1
    have b1 := b1.kept hb1
    go_wp2_with fail
    refine (KP.out _ hv1).mono ?_
    rintro e w2 ⟨v, rfl, hv, hb2⟩
    obtain rfl : v = .nilIface := hv.nil
    have hv2 := hv1.trans (hb2.mono hv1.size)
    have b0 := b0.kept hb2
    have b1 := b1.kept hb2
    have c0 := b0.cell 0 rfl
    have c1 := b0.cell 1 rfl
    have c2 := b0.cell 2 rfl
    have c3 := b1.cell 0 rfl
    have c4 := b1.cell 1 rfl
    have c5 := b1.cell 2 rfl
    go_wp2_with fail
    refine (KV.out _ hv2).mono ?_
    rintro e w3 ⟨rfl, hb3⟩
    have hv3 := hv2.trans (hb3.mono hv2.size)
    have b0 := b0.kept hb3
    have b1 := b1.kept hb3
    clear hb1 hb2 hv
    clear c0 c1 c2 c3 c4 c5
    have c2 := b0.cell 2 rfl
    have c3 := b1.cell 0 rfl
    have c4 := b1.cell 1 rfl
    have c5 := b1.cell 2 rfl
    go_wp2_with fail
    refine (KU.out _ hv3).mono ?_
    rintro e w4 ⟨rfl, hb4⟩
    have hv4 := hv3.trans (hb4.mono hv3.size)
    have b0 := b0.kept hb4
    have b1 := b1.kept hb4
    clear hb3 hb4 c2 c3 c4 c5
    have c0 := b0.cell 0 rfl
    have c1 := b0.cell 1 rfl
    have c2 := b0.cell 2 rfl
    have c3 := b1.cell 0 rfl
    have c4 := b1.cell 1 rfl
    have c5 := b1.cell 2 rfl
    clear c0 c1 c2 c3 c4 c5
    have c0 := b0.cell 0 rfl
    have c1 := b0.cell 1 rfl
    have c2 := b0.cell 2 rfl
    have c5 := b1.cell 2 rfl
    go_wp2_with fail
    refine (KW.out _ hv4).mono ?_
    rintro e w5 ⟨v, rfl, hv, hb5⟩
    obtain rfl : v = .nilIface := hv.nil
    have b0 := b0.kept hb5
    have hv5 := hv4.trans (hb5.mono hv4.size)
    clear c0 c1 c2 c5
    have c0 := b0.cell 0 rfl
    have c1 := b0.cell 1 rfl
    have c2 := b0.cell 2 rfl
    go_wp2_with fail
    refine (KS.out _ hv5).mono ?_
    rintro e w6 ⟨v, rfl, hv, hb6⟩
    obtain ⟨vt, vx, rfl⟩ := hv.held (by decide)
    have hv6 := hv5.trans (hb6.mono hv5.size)
    go_wp2
    go_ret
    exact ⟨rfl, hv6⟩

set_option maxRecDepth 400000 in
set_option maxHeartbeats 3200000 in
theorem memAgrees_law (ea : Nat → Addr) (a : Option Addr) (n cap : Nat) (l : List Int) (m d s m' d' s' value : Int) (w : World) (hg : Glob w ea [1, 2, 3, 4, 5, 7, 8, 9]) (hT : TxtEnv w) (hn : l.length = n) (hr : RowAt w a (encInts l)) (h40 : n ≤ 40)
    (h : (memRF l m d s).1 = 0) (h' : (memRF l m' d' s').1 = 0) (hs : s ≠ 1000000) (hs' : s' ≠ 1000000) (hnb : numB value = true) :
    Calls Tryd.prog 4 #[.slice a n cap, .agg #[.int .i64 m, .int .i64 d, .int .i64 s], .agg #[.int .i64 m', .int .i64 d', .int .i64 s'], .int .i64 value] w fun e w' => e = .returned (.bool true) ∧ Below w.heap.size w w' := by
  have hb0 : Below w.heap.size w ((w.alloc (.cells #[.int .i64 m, .int .i64 d, .int .i64 s] 42)).alloc (.cells #[.int .i64 m', .int .i64 d', .int .i64 s'] 42)) := ((Below.refl _ _).alloc (Nat.le_refl _) _).alloc (by simp) _
  have hE : frameE (sendFrm l m d s (whoV l s.toNat) value) = 0 := by rw [send_frm_E h, if_pos hnb]
  have hlen := frameT_short hE
  have K0 := Lib.hid (stepped_any ea _ (hg.below hb0) (hT.below hb0))
  have KP := Lib.hid (fun (W : World) (hb : Below w.heap.size w W) => planCheck_any ea a n cap l W ((hg.below hb).sub (by simp)) hn (hr.below hb) (by omega))
  have KV := Lib.hid (fun (W : World) (hb : Below w.heap.size w W) => memCheck_any ea m d s W ((hg.below hb).sub (by simp)))
  have KU := Lib.hid (fun (W : World) (hb : Below w.heap.size w W) => memCheck_any ea m' d' s' W ((hg.below hb).sub (by simp)))
  have KW := Lib.hid (fun (W : World) (hb : Below w.heap.size w W) => who_any ea a n cap l s W ((hg.below hb).sub (by simp)) hn (hr.below hb) (by omega))
  have KS := Lib.hid (fun (W : World) (hb : Below w.heap.size w W) => send_any ea a n cap l m d s (whoV l s.toNat) value W ((hg.below hb).sub (by simp)) (hT.below hb) hn (hr.below hb) (by omega))
  have KX := Lib.hid (fun (W : World) (hb : Below w.heap.size w W) => step_any ea a n cap l m d s (frameT (sendFrm l m d s (whoV l s.toNat) value)) W ((hg.below hb).sub (by simp)) (hT.below hb) hn (hr.below hb) (by omega) (by omega))
  have KY := Lib.hid (fun (W : World) (hb : Below w.heap.size w W) => step_any ea a n cap l m' d' s' (frameT (sendFrm l m d s (whoV l s.toNat) value)) W ((hg.below hb).sub (by simp)) (hT.below hb) hn (hr.below hb) (by omega) (by omega))
  have HH := Lib.hid (fun (k : Int) (W : World) => refHas_any m' k W)
  have HW := Lib.hid (fun (k : Int) (W : World) => refHas_any m k W)
  have HEq := Lib.hid (agrees_eq h h' hnb)
  have hoth := agrees_other h h' hnb
  have hown := agrees_own h hnb
  obtain ⟨hp, hv, _, hR⟩ := memRF_ok h
  have hv' := (memRF_ok h').2.1
  have hvd := (viewE_zero hv).2
  have hvd' := (viewE_zero hv').2
  simp only [viewB, decide_eq_true_eq] at hvd hvd'
  have hF : stepF l m d s = (0, -1) := by rw [stepF, if_pos h, if_neg (by omega)]
  have hF' : stepF l m' d' s' = (0, -1) := by rw [stepF, if_pos h', if_neg (by omega)]
  rw [(planF_ok hp).1] at KP
  rw [hv, errV_zero] at KV
  rw [hv', errV_zero] at KU
  rw [whoF, if_pos hR, rightF_zero hR] at KW
  rw [sendF, if_pos h, if_pos rfl, sendT, if_pos ⟨h, rfl⟩, makeF, hE, if_pos rfl] at KS
  rw [stepV, hF, if_pos rfl, stepE, hF, if_pos rfl, hown.1, if_pos rfl, hown.2] at KX
  rw [stepV, hF', if_pos rfl, stepE, hF', if_pos rfl, hoth] at KY
  have HAl := Lib.hid (fun k => show alikeTo m' m (whoV l s.toNat) (k + 1) = (alikeTo m' m (whoV l s.toNat) k && (((k : Int) + 1 == whoV l s.toNat) || (hasB m' ((k : Int) + 1) == hasB m ((k : Int) + 1)))) from rfl)
  have HA0 : Hid (alikeTo m' m (whoV l s.toNat) 0 = true) := rfl
  have d1 : decide ((40 : Int) < (n : Int)) = false := by simp; omega
  have d5 : (s == 1000000) = false := by simpa using hs
  have d6 : (s' == 1000000) = false := by simpa using hs'
  simp only [Ent.v] at KX KY
  generalize frameT (sendFrm l m d s (whoV l s.toNat) value) = tx at *
  generalize stepM l m d s tx = M at *
  generalize stepM l m' d' s' tx = M' at *
  generalize whoV l s'.toNat = who' at *
  generalize hqq : (if (d' == d && s' == s && alikeTo m' m (whoV l s.toNat) 16) = true then (frameF tx).2.value else 0) = val at *
  generalize whoV l s.toNat = who at *
  generalize hAL : alikeTo m' m who = AL at *
  clear hg hT hn hr h h' hs hs' hnb hp hv hR hv' hE hoth hown hvd hvd' hF hF' hlen hqq hAL
  go_enter Tryd.func4, Tryd.ntmps4
  go_wp2_with fail
  refine K0.out.mono ?_
  rintro e w1 ⟨rfl, hb1⟩
  have hv1 := hb0.trans (hb1.mono hb0.size)
  have b0 := ((Blok.new w 42 #[.int .i64 m, .int .i64 d, .int .i64 s]).alloc (.cells #[.int .i64 m', .int .i64 d', .int .i64 s'] 42)).kept hb1
  have b1 := Blok.new (w.alloc (.cells #[.int .i64 m, .int .i64 d, .int .i64 s] 42)) 42 #[.int .i64 m', .int .i64 d', .int .i64 s']
  rw [World.size_alloc] at b1
  have b1 := b1.kept hb1
  go_wp2_with fail
  refine (KP.out _ hv1).mono ?_
  rintro e w2 ⟨v, rfl, hv, hb2⟩
  obtain rfl : v = .nilIface := hv.nil
  have hv2 := hv1.trans (hb2.mono hv1.size)
  have b0 := b0.kept hb2
  have b1 := b1.kept hb2
  have c0 := b0.cell 0 rfl
  have c1 := b0.cell 1 rfl
  have c2 := b0.cell 2 rfl
  have c3 := b1.cell 0 rfl
  have c4 := b1.cell 1 rfl
  have c5 := b1.cell 2 rfl
  go_wp2_with fail
  refine (KV.out _ hv2).mono ?_
  rintro e w3 ⟨rfl, hb3⟩
  have hv3 := hv2.trans (hb3.mono hv2.size)
  have b0 := b0.kept hb3
  have b1 := b1.kept hb3
  clear hb1 hb2 hv
  clear c0 c1 c2 c3 c4 c5
  have c2 := b0.cell 2 rfl
  have c3 := b1.cell 0 rfl
  have c4 := b1.cell 1 rfl
  have c5 := b1.cell 2 rfl
  go_wp2_with fail
  refine (KU.out _ hv3).mono ?_
  rintro e w4 ⟨rfl, hb4⟩
  have hv4 := hv3.trans (hb4.mono hv3.size)
  have b0 := b0.kept hb4
  have b1 := b1.kept hb4
  clear hb3 hb4 c2 c3 c4 c5
  have c0 := b0.cell 0 rfl
  have c1 := b0.cell 1 rfl
  have c2 := b0.cell 2 rfl
  have c3 := b1.cell 0 rfl
  have c4 := b1.cell 1 rfl
  have c5 := b1.cell 2 rfl
  clear c0 c1 c2 c3 c4 c5
  have c0 := b0.cell 0 rfl
  have c1 := b0.cell 1 rfl
  have c2 := b0.cell 2 rfl
  have c5 := b1.cell 2 rfl
  go_wp2_with fail
  refine (KW.out _ hv4).mono ?_
  rintro e w5 ⟨v, rfl, hv, hb5⟩
  obtain rfl : v = .nilIface := hv.nil
  have b0 := b0.kept hb5
  have b1 := b1.kept hb5
  have hv5 := hv4.trans (hb5.mono hv4.size)
  clear c0 c1 c2 c5 hb5 hv
  have c0 := b0.cell 0 rfl
  have c1 := b0.cell 1 rfl
  have c2 := b0.cell 2 rfl
  go_wp2_with fail
  refine (KS.out _ hv5).mono ?_
  rintro e w6 ⟨v, rfl, hv, hb6⟩
  obtain rfl : v = .nilIface := hv.nil
  have hv6 := hv5.trans (hb6.mono hv5.size)
  have b0 := b0.kept hb6
  have b1 := b1.kept hb6
  clear c0 c1 c2 hb6 hv
  have c0 := b0.cell 0 rfl
  have c1 := b0.cell 1 rfl
  have c2 := b0.cell 2 rfl
  go_wp2_with fail
  refine (KX.out _ hv6).mono ?_
  rintro e w7 ⟨v, rfl, hv, hb7⟩
  obtain rfl : v = .nilIface := hv.nil
  have hv7 := hv6.trans (hb7.mono hv6.size)
  have b0 := b0.kept hb7
  have b1 := b1.kept hb7
  clear c0 c1 c2 hb7 hv
  have b2 := (Blok.new w7 42 #[.int .i64 M, .int .i64 d, .int .i64 (s + 1)]).alloc (.cells #[.int .i64 s, .int .i64 who, .bool true, .int .i64 value] 38)
  have b3 := Blok.new (w7.alloc (.cells #[.int .i64 M, .int .i64 d, .int .i64 (s + 1)] 42)) 38 #[.int .i64 s, .int .i64 who, .bool true, .int .i64 value]
  rw [World.size_alloc] at b3
  have b0 := (b0.alloc (.cells #[.int .i64 M, .int .i64 d, .int .i64 (s + 1)] 42)).alloc (.cells #[.int .i64 s, .int .i64 who, .bool true, .int .i64 value] 38)
  have b1 := (b1.alloc (.cells #[.int .i64 M, .int .i64 d, .int .i64 (s + 1)] 42)).alloc (.cells #[.int .i64 s, .int .i64 who, .bool true, .int .i64 value] 38)
  have hv8 := (hv7.alloc hv7.size (.cells #[.int .i64 M, .int .i64 d, .int .i64 (s + 1)] 42)).alloc (by have := hv7.size; simp; omega) (.cells #[.int .i64 s, .int .i64 who, .bool true, .int .i64 value] 38)
  have c0 := b1.cell 0 rfl
  have c1 := b1.cell 1 rfl
  have c2 := b1.cell 2 rfl
  have c3 := b3.cell 2 rfl
  have c4 := b3.cell 3 rfl
  go_wp2_with fail
  generalize hW8 : (w7.alloc (.cells #[.int .i64 M, .int .i64 d, .int .i64 (s + 1)] 42)).alloc (.cells #[.int .i64 s, .int .i64 who, .bool true, .int .i64 value] 38) = w8 at *
  clear hW8 c0 c1 c2 c3 c4
  refine (KY.out _ hv8).mono ?_
  rintro e w9 ⟨v, rfl, hv, hb9⟩
  obtain rfl : v = .nilIface := hv.nil
  have hv9 := hv8.trans (hb9.mono hv8.size)
  have b0 := b0.kept hb9
  have b1 := b1.kept hb9
  have b2 := b2.kept hb9
  clear hb9 hv b3
  generalize hsm : (d' == d && s' == s && AL 16) = sm at *
  have b4 := (Blok.new w9 42 #[.int .i64 M', .int .i64 d', .int .i64 (s' + 1)]).alloc (.cells #[.int .i64 s', .int .i64 who', .bool sm, .int .i64 val] 38)
  have b5 := Blok.new (w9.alloc (.cells #[.int .i64 M', .int .i64 d', .int .i64 (s' + 1)] 42)) 38 #[.int .i64 s', .int .i64 who', .bool sm, .int .i64 val]
  rw [World.size_alloc] at b5
  have b0 := (b0.alloc (.cells #[.int .i64 M', .int .i64 d', .int .i64 (s' + 1)] 42)).alloc (.cells #[.int .i64 s', .int .i64 who', .bool sm, .int .i64 val] 38)
  have b1 := (b1.alloc (.cells #[.int .i64 M', .int .i64 d', .int .i64 (s' + 1)] 42)).alloc (.cells #[.int .i64 s', .int .i64 who', .bool sm, .int .i64 val] 38)
  have b2 := (b2.alloc (.cells #[.int .i64 M', .int .i64 d', .int .i64 (s' + 1)] 42)).alloc (.cells #[.int .i64 s', .int .i64 who', .bool sm, .int .i64 val] 38)
  have hvA := (hv9.alloc hv9.size (.cells #[.int .i64 M', .int .i64 d', .int .i64 (s' + 1)] 42)).alloc (by have := hv9.size; simp; omega) (.cells #[.int .i64 s', .int .i64 who', .bool sm, .int .i64 val] 38)
  have a0 := b0.cell 0 rfl
  have a1 := b0.cell 1 rfl
  have a2 := b0.cell 2 rfl
  have c0 := b1.cell 0 rfl
  have c1 := b1.cell 1 rfl
  have c2 := b1.cell 2 rfl
  have e0 := b2.cell 0 rfl
  have e1 := b2.cell 1 rfl
  have e2 := b2.cell 2 rfl
  have f0 := b4.cell 0 rfl
  have f1 := b4.cell 1 rfl
  have f2 := b4.cell 2 rfl
  have g2 := b5.cell 2 rfl
  generalize hQ : (d' == d && s' == s) = Q at *
  generalize hWA : (w9.alloc (.cells #[.int .i64 M', .int .i64 d', .int .i64 (s' + 1)] 42)).alloc (.cells #[.int .i64 s', .int .i64 who', .bool sm, .int .i64 val] 38) = wA at *
  have HSM := Lib.hid hsm
  have HV : Hid (sm = true → ∀ W : World, (binOp .eql 42 (.agg #[.int .i64 M', .int .i64 d', .int .i64 (s' + 1)]) (.agg #[.int .i64 M, .int .i64 d, .int .i64 (s + 1)])).run Tryd.prog W = .ok (.bool true) W) := fun e W => by
    obtain ⟨rfl, rfl, rfl⟩ := HEq.out e
    rw [run_view_eql]; simp
  clear hsm b0 b1 b2 b4 b5 hv4 hv5 hv6 hv7 hv8 hv9
  have KF : Hid (∀ k : Nat, k < 16 → (Q && AL (k + 1)) = (Q && AL k && (((k : Int) + 1 == who) || (hasB m' ((k : Int) + 1) == hasB m ((k : Int) + 1))))) := fun k _ => by
    rw [HAl.out k, Bool.and_assoc]
  cases h1 : (d' == d)
  all_goals cases h2 : (s' == s)
  all_goals
    rw [h1, h2] at hQ
    have HQ := Lib.hid hQ
    clear hQ
    go_wp2
    clear hWA
    go_loop [17, 18] (fun c i => ∃ k : Nat, k ≤ 16 ∧ i = .int .i64 ((k : Int) + 1) ∧ c = .bool (Q && AL k)) (fun _ i => 18 - (intOf i).toNat)
    case atStart => exact ⟨0, Nat.zero_le _, rfl, by rw [HA0.out, Bool.and_true, ← HQ.out]; rfl⟩
    case round =>
      obtain ⟨k, hk, rfl, rfl⟩ := hrel
      by_cases hlt : k < 16
      · have HX := Lib.hid (KF.out k hlt)
        have K1 := Lib.hid (fun (W : World) => HH.out ((k : Int) + 1) W)
        have K2 := Lib.hid (fun (W : World) => HW.out ((k : Int) + 1) W)
        generalize hasB m' ((k : Int) + 1) = p at *
        generalize hasB m ((k : Int) + 1) = q at *
        generalize (Q && AL k) = c at *
        go_wp2_with fail
        refine (K1.out _).mono ?_
        rintro e wB ⟨rfl, rfl⟩
        go_wp2_with fail
        refine (K2.out _).mono ?_
        rintro e wB ⟨rfl, rfl⟩
        cases c
        · go_wp2
          go_round
          case rel => exact ⟨k + 1, by omega, by go_num, by rw [HX.out]; rfl⟩
          case measure => simp [intOf]; omega
        · cases hkw : ((k : Int) + 1 == who)
          · go_wp2
            go_round
            case rel => exact ⟨k + 1, by omega, by go_num, by rw [HX.out, hkw]; rfl⟩
            case measure => simp [intOf]; omega
          · go_wp2
            go_round
            case rel => exact ⟨k + 1, by omega, by go_num, by rw [HX.out, hkw]; rfl⟩
            case measure => simp [intOf]; omega
      · obtain rfl : k = 16 := by omega
        rw [HSM.out]
        cases sm
        · go_wp2
          go_ret
          exact ⟨rfl, hvA⟩
        · have HV' := HV.out rfl
          go_wp2
          go_ret
          exact ⟨rfl, hvA⟩

theorem walk_MemberAgrees (ea : Nat → Addr) (a : Option Addr) (n cap : Nat) (l : List Int) (m d s m' d' s' value : Int) (w : World) (hg : Glob w ea [1, 2, 3, 4, 5, 7, 8, 9]) (hT : TxtEnv w)
    (hn : l.length = n) (hr : RowAt w a (encInts l)) (_hc : n ≤ cap) (hm : n ≤ 4611686018427387904) (_hv : (-9223372036854775808 ≤ m ∧ m ≤ 9223372036854775807) ∧ (-9223372036854775808 ≤ d ∧ d ≤ 9223372036854775807) ∧ (-9223372036854775808 ≤ s ∧ s ≤ 9223372036854775807))
    (_hu : (-9223372036854775808 ≤ m' ∧ m' ≤ 9223372036854775807) ∧ (-9223372036854775808 ≤ d' ∧ d' ≤ 9223372036854775807) ∧ (-9223372036854775808 ≤ s' ∧ s' ≤ 9223372036854775807)) (_hx : -9223372036854775808 ≤ value ∧ value ≤ 9223372036854775807) :
    Calls Tryd.prog 4 #[.slice a n cap, .agg #[.int .i64 m, .int .i64 d, .int .i64 s], .agg #[.int .i64 m', .int .i64 d', .int .i64 s'], .int .i64 value] w fun e w' => e = .returned (.bool true) ∧ Below w.heap.size w w' := by
  by_cases h : 40 < n ∨ (planF l).1 ≠ 0 ∨ viewE m d s ≠ 0 ∨ viewE m' d' s' ≠ 0 ∨ s = 1000000 ∨ s' = 1000000
  · exact memAgrees_long ea a n cap l m d s m' d' s' value w hg hT hn hr hm h
  · have hp : (planF l).1 = 0 := by omega
    have h1 : (memRF l m d s).1 = 0 := by rw [memRF, if_pos hp]; show viewE m d s = 0; omega
    have h2 : (memRF l m' d' s').1 = 0 := by rw [memRF, if_pos hp]; show viewE m' d' s' = 0; omega
    cases hnb : numB value
    · exact memAgrees_off ea a n cap l m d s m' d' s' value w hg hT hn hr (by omega) h1 h2 (by omega) (by omega) hnb
    · exact memAgrees_law ea a n cap l m d s m' d' s' value w hg hT hn hr (by omega) h1 h2 (by omega) (by omega) hnb
end Go.Proofs.YtbfocagicagehaaDoor
