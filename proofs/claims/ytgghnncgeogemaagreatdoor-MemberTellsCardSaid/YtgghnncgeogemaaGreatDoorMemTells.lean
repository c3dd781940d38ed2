/- MemberTells: the law's walk. -/
import Derived.Test.YtgghnncgeogemaaGreatDoorRefStep2
import Derived.Test.YtgghnncgeogemaaGreatDoorRefStep3
import Derived.Test.YtgghnncgeogemaaGreatDoorMemFact
import Derived.Test.YtgghnncgeogemaaGreatDoorCoded
import Derived.Test.YtgghnncgeogemaaGreatDoorEntOps
import Derived.Deep.RegionHeld3
namespace Go.Proofs.YtgghnncgeogemaaGreatDoor
open Go.RowKit

theorem stepOf_any (a : Option Addr) (n cap : Nat) (l : List Int) (m d s : Int) (t : List UInt8) (w : World) (hn : l.length = n) (hr : RowAt w a (encInts l)) (hc : n ≤ 4611686018427387904) (ht : t.length ≤ 100000) :
    Calls Tryz.prog 35 #[.slice a n cap, .agg #[.int .i64 m, .int .i64 d, .int .i64 s], .string ⟨t.toArray⟩] w fun e w' =>
      e = .returned (.tuple #[.agg #[.int .i64 (stepV l m d s t).1, .int .i64 (stepV l m d s t).2.1, .int .i64 (stepV l m d s t).2.2], (stepE l m d s t).v, .agg #[.int .i64 (stepF l m d s).1, .int .i64 (stepF l m d s).2]]) ∧ Below w.heap.size w w' := by
  by_cases h : (planF l).1 = 0
  · by_cases hV : viewE m d s = 0
    · have hM : (memRF l m d s).1 = 0 := by rw [memRF, if_pos h, hV]
      obtain ⟨hcm, hvd⟩ := viewE_zero hV
      by_cases hs : 1000000 ≤ s
      · have hs' : s = 1000000 := by simp only [viewB, decide_eq_true_eq] at hvd; omega
        have hF : stepF l m d s = (7, -1) := by rw [stepF, if_pos hM, if_pos hs]
        have hW : stepV l m d s t = (0, 0, 0) := by rw [stepV, if_neg (by rw [hF]; simp)]
        have hE : stepE l m d s t = ⟨0, 0, false, 0⟩ := by rw [stepE, if_neg (by rw [hF]; simp)]
        rw [hF, hW, hE]
        exact stepOf_full a n cap l m d s t w hn hr hc h hV hs'
      · obtain ⟨k, rfl, hk⟩ := crew_nat hcm
        obtain ⟨q, rfl⟩ : ∃ q : Nat, s = q := ⟨s.toNat, by simp only [viewB, decide_eq_true_eq] at hvd; omega⟩
        have hs2 : q < 1000000 := by omega
        have hF : stepF l k d q = (0, -1) := by rw [stepF, if_pos hM, if_neg hs]
        have hnd : nodeB (whoV l q) = true := (planF_ok h).2.2.2 _ (whoV_mem l _ (planF_ok h).2.1)
        have hW : stepV l k d q t = ((stepM l k d q t : Int), d, (q : Int) + 1) := by rw [stepV, if_pos (by rw [hF])]
        have hE : stepE l k d q t = ⟨q, whoV l q, stepOk l k d q t, if stepOk l k d q t then (frameF t).2.value else 0⟩ := by rw [stepE, if_pos (by rw [hF])]; rfl
        have hO : stepOk l k d q t = stepB (whoV l q) k d q t := rfl
        have hMM : stepM l k d q t = if stepOk l k d q t then k ||| bitOf (whoV l q) else lessN (k ||| bitOf (whoV l q)) (bitOf (whoV l q)) := rfl
        have KRF := fun W : World => readFrame_any t W ht
        simp only [Frm.arr] at KRF
        have hB : stepB (whoV l q) k d q t = decide ((frameF t).1 = 0 ∧ (frameF t).2.frm = whoV l q ∧ (frameF t).2.mem = ((k ||| bitOf (whoV l q) : Nat) : Int) ∧ (frameF t).2.mode = d ∧ (frameF t).2.slot = q) := rfl
        rw [hF, hW, hE, hMM, hO]
        cases hH : hasB k (whoV l q)
        · obtain ⟨e1, e2⟩ := step_new hk hnd hH
          have e3 : ((k ||| bitOf (whoV l q) : Nat) : Int) = (k : Int) + (bitOf (whoV l q) : Nat) := by rw [e1]; push_cast; rfl
          rw [e3] at hB
          by_cases p1 : (frameF t).1 = 0
          · by_cases p2 : (frameF t).2.frm = whoV l q
            · by_cases p3 : (frameF t).2.mem = (k : Int) + (bitOf (whoV l q) : Nat)
              · by_cases p4 : (frameF t).2.mode = d
                · by_cases p5 : (frameF t).2.slot = q
                  · rw [hB, decide_eq_true ⟨p1, p2, p3, p4, p5⟩, if_pos rfl, if_pos rfl, e3]
                    exact stepOf_n6 a n cap l k _ q d _ _ _ _ _ _ _ t w hn hr hc h hV hs2 rfl hk rfl hH KRF (by rw [p1]; rfl) (by simpa using p2) (by simpa using p3) (by simpa using p4) (by simpa using p5)
                  · rw [hB, decide_eq_false (fun x => p5 x.2.2.2.2), if_neg (by simp), if_neg (by simp), e2]
                    exact stepOf_n5 a n cap l k _ q d _ _ _ _ _ _ _ t w hn hr hc h hV hs2 rfl hk rfl hH KRF (by rw [p1]; rfl) (by simpa using p2) (by simpa using p3) (by simpa using p4) (by simpa using p5)
                · rw [hB, decide_eq_false (fun x => p4 x.2.2.2.1), if_neg (by simp), if_neg (by simp), e2]
                  exact stepOf_n4 a n cap l k _ q d _ _ _ _ _ _ _ t w hn hr hc h hV hs2 rfl hk rfl hH KRF (by rw [p1]; rfl) (by simpa using p2) (by simpa using p3) (by simpa using p4)
              · rw [hB, decide_eq_false (fun x => p3 x.2.2.1), if_neg (by simp), if_neg (by simp), e2]
                exact stepOf_n3 a n cap l k _ q d _ _ _ _ _ _ _ t w hn hr hc h hV hs2 rfl hk rfl hH KRF (by rw [p1]; rfl) (by simpa using p2) (by simpa using p3)
            · rw [hB, decide_eq_false (fun x => p2 x.2.1), if_neg (by simp), if_neg (by simp), e2]
              exact stepOf_n2 a n cap l k _ q d _ _ _ _ _ _ _ t w hn hr hc h hV hs2 rfl hk rfl hH KRF (by rw [p1]; rfl) (by simpa using p2)
          · rw [hB, decide_eq_false (fun x => p1 x.1), if_neg (by simp), if_neg (by simp), e2]
            exact stepOf_n1 a n cap l k _ q d _ _ _ _ _ _ _ t w hn hr hc h hV hs2 rfl hk rfl hH KRF (by simp; omega)
        · obtain ⟨e1, e2⟩ := step_has hk hnd hH
          have e4 : ((lessN (k ||| bitOf (whoV l q)) (bitOf (whoV l q)) : Nat) : Int) = (k : Int) - (bitOf (whoV l q) : Nat) := by omega
          rw [e1] at hB
          by_cases p1 : (frameF t).1 = 0
          · by_cases p2 : (frameF t).2.frm = whoV l q
            · by_cases p3 : (frameF t).2.mem = (k : Int)
              · by_cases p4 : (frameF t).2.mode = d
                · by_cases p5 : (frameF t).2.slot = q
                  · rw [hB, decide_eq_true ⟨p1, p2, p3, p4, p5⟩, if_pos rfl, if_pos rfl, e1]
                    exact stepOf_h6 a n cap l k _ q d _ _ _ _ _ _ _ t w hn hr hc h hV hs2 rfl hk rfl hH KRF (by rw [p1]; rfl) (by simpa using p2) (by simpa using p3) (by simpa using p4) (by simpa using p5)
                  · rw [hB, decide_eq_false (fun x => p5 x.2.2.2.2), if_neg (by simp), if_neg (by simp), e4]
                    exact stepOf_h5 a n cap l k _ q d _ _ _ _ _ _ _ t w hn hr hc h hV hs2 rfl hk rfl hH KRF (by rw [p1]; rfl) (by simpa using p2) (by simpa using p3) (by simpa using p4) (by simpa using p5)
                · rw [hB, decide_eq_false (fun x => p4 x.2.2.2.1), if_neg (by simp), if_neg (by simp), e4]
                  exact stepOf_h4 a n cap l k _ q d _ _ _ _ _ _ _ t w hn hr hc h hV hs2 rfl hk rfl hH KRF (by rw [p1]; rfl) (by simpa using p2) (by simpa using p3) (by simpa using p4)
              · rw [hB, decide_eq_false (fun x => p3 x.2.2.1), if_neg (by simp), if_neg (by simp), e4]
                exact stepOf_h3 a n cap l k _ q d _ _ _ _ _ _ _ t w hn hr hc h hV hs2 rfl hk rfl hH KRF (by rw [p1]; rfl) (by simpa using p2) (by simpa using p3)
            · rw [hB, decide_eq_false (fun x => p2 x.2.1), if_neg (by simp), if_neg (by simp), e4]
              exact stepOf_h2 a n cap l k _ q d _ _ _ _ _ _ _ t w hn hr hc h hV hs2 rfl hk rfl hH KRF (by rw [p1]; rfl) (by simpa using p2)
          · rw [hB, decide_eq_false (fun x => p1 x.1), if_neg (by simp), if_neg (by simp), e4]
            exact stepOf_h1 a n cap l k _ q d _ _ _ _ _ _ _ t w hn hr hc h hV hs2 rfl hk rfl hH KRF (by simp; omega)
    · have hM : memRF l m d s = (2, -1) := by rw [memRF, if_pos h, viewE_two hV]
      have hF : stepF l m d s = (2, -1) := by rw [stepF, hM]; rfl
      have hW : stepV l m d s t = (0, 0, 0) := by rw [stepV, if_neg (by rw [hF]; simp)]
      have hE : stepE l m d s t = ⟨0, 0, false, 0⟩ := by rw [stepE, if_neg (by rw [hF]; simp)]
      rw [hF, hW, hE]
      exact stepOf_view a n cap l m d s t w hn hr hc h (viewE_two hV)
  · have hM : memRF l m d s = planF l := by rw [memRF, if_neg h]
    have hF : stepF l m d s = planF l := by rw [stepF, hM, if_neg h]
    have hW : stepV l m d s t = (0, 0, 0) := by rw [stepV, if_neg (by rw [hF]; exact h)]
    have hE : stepE l m d s t = ⟨0, 0, false, 0⟩ := by rw [stepE, if_neg (by rw [hF]; exact h)]
    rw [hF, hW, hE]
    exact stepOf_bad a n cap l m d s t w hn hr hc h

theorem coded2_sm (ea : Nat → Addr) (code : Nat) (w : World) (hG : GlobC w ea) (h11 : code ≤ 11) :
    Calls Tryz.prog 31 #[errV ea code, .int .i64 code] w fun e w' => e = .returned (.bool true) ∧ Below w.heap.size w w' :=
  coded2_yes ea (errV ea code) code code w hG (ErrIs.bare ea w code) h11 rfl
theorem faulted2_mt (ea : Nat → Addr) (v : Value) (code : Nat) (pl : Int) (w : World) (hG : GlobC w ea) (hE : ErrIs ea w v code pl) (h11 : code ≤ 11) :
    Calls Tryz.prog 36 #[v, .agg #[.int .i64 code, .int .i64 pl]] w fun e w' => e = .returned (.bool true) ∧ Below w.heap.size w w' :=
  (faulted2_any ea v code pl code pl w hG hE h11).mono fun e w' ⟨h1, h2⟩ => ⟨by rw [h1]; simp, h2⟩
theorem viewE_le (m d s : Int) : viewE m d s ≤ 11 := by unfold viewE; split <;> omega
theorem memRF_le (l : List Int) (m d s : Int) : (memRF l m d s).1 ≤ 11 := by
  unfold memRF
  split
  · exact viewE_le m d s
  · exact planF_le l
theorem stepF_le (l : List Int) (m d s : Int) : (stepF l m d s).1 ≤ 11 := by
  unfold stepF
  split
  · split <;> (dsimp only; omega)
  · exact memRF_le l m d s
theorem frameE_le' (f : Frm) : frameE f ≤ 11 := by unfold frameE; repeat (first | omega | split)
theorem sendF_le (l : List Int) (m d s node value : Int) : (sendF l m d s node value).1 ≤ 11 := by
  unfold sendF
  split
  · split
    · exact frameE_le' _
    · dsimp only; omega
  · exact memRF_le l m d s
theorem run_view_neq (W : World) (a b c : Int) : (binOp .neq 49 (.agg #[.int .i64 a, .int .i64 b, .int .i64 c]) (.agg #[.int .i64 a, .int .i64 b, .int .i64 c])).run Tryz.prog W = .ok (.bool false) W := by
  go_simp
theorem run_entry_neq (W : World) (a b c : Int) (x : Bool) : (binOp .neq 53 (.agg #[.int .i64 a, .int .i64 b, .bool x, .int .i64 c]) (.agg #[.int .i64 a, .int .i64 b, .bool x, .int .i64 c])).run Tryz.prog W = .ok (.bool false) W := by
  cases x <;> go_simp

set_option maxRecDepth 400000 in
set_option maxHeartbeats 3200000 in
theorem memTells_law (ea : Nat → Addr) (a : Option Addr) (n cap : Nat) (l : List Int) (m d s : Int) (t : List UInt8) (node value : Int) (w : World) (hG : GlobC w ea) (hT : TxtEnv w)
    (hn : l.length = n) (hr : RowAt w a (encInts l)) (hl : n ≤ 40) (ht : t.length ≤ 150) :
    Calls Tryz.prog 4 #[.slice a n cap, .agg #[.int .i64 m, .int .i64 d, .int .i64 s], .string ⟨t.toArray⟩, .int .i64 node, .int .i64 value] w fun e w' => e = .returned (.bool true) ∧ Below w.heap.size w w' := by
  have hb0 : Below w.heap.size w (w.alloc (.cells #[.int .i64 m, .int .i64 d, .int .i64 s] 49)) := (Below.refl _ _).alloc (Nat.le_refl _) _
  have b0 := Blok.new w 49 #[.int .i64 m, .int .i64 d, .int .i64 s]
  have K0 := Lib.hid (stepped_any ea _ ((hG.below hb0).glob.sub (by simp)) (hT.below hb0))
  have MC := Lib.hid (fun (W : World) (hb : Below w.heap.size w W) => memCheck_any ea m d s W ((hG.below hb).glob.sub (by simp)))
  have RV := Lib.hid (fun (W : World) => viewError_any m d s W)
  have C2 := Lib.hid (fun (W : World) (hb : Below w.heap.size w W) => coded2_sm ea (viewE m d s) W (hG.below hb) (viewE_le m d s))
  have PS := Lib.hid (fun (W : World) (hb : Below w.heap.size w W) => step_any ea a n cap l m d s t W ((hG.below hb).glob.sub (by simp)) (hT.below hb) hn (hr.below hb) (by omega) (by omega))
  have RS := Lib.hid (fun (W : World) (hb : Below w.heap.size w W) => stepOf_any a n cap l m d s t W hn (hr.below hb) (by omega) (by omega))
  have F1 := Lib.hid (fun (W : World) (v : Value) (hb : Below w.heap.size w W) (hE : ErrIs ea W v (stepF l m d s).1 (stepF l m d s).2) => faulted2_mt ea v _ _ W (hG.below hb) hE (stepF_le l m d s))
  have PN := Lib.hid (fun (W : World) (hb : Below w.heap.size w W) => send_any ea a n cap l m d s node value W ((hG.below hb).glob.sub (by simp)) (hT.below hb) hn (hr.below hb) (by omega))
  have RN := Lib.hid (fun (W : World) (hb : Below w.heap.size w W) => sendOf_any a n cap l m d s node value W hn (hr.below hb) (by omega))
  have F2 := Lib.hid (fun (W : World) (v : Value) (hb : Below w.heap.size w W) (hE : ErrIs ea W v (sendF l m d s node value).1 (sendF l m d s node value).2) => faulted2_mt ea v _ _ W (hG.below hb) hE (sendF_le l m d s node value))
  have HV := run_view_neq
  have HE := run_entry_neq
  have d1 : decide ((40 : Int) < (n : Int)) = false := decide_eq_false (by omega)
  have d2 : decide ((150 : Int) < (t.length : Int)) = false := decide_eq_false (by omega)
  simp only [Ent.v] at PS RS
  generalize errV ea (viewE m d s) = v0 at *
  generalize (viewE m d s : Int) = c0 at *
  generalize (stepV l m d s t).1 = y1 at *
  generalize (stepV l m d s t).2.1 = y2 at *
  generalize (stepV l m d s t).2.2 = y3 at *
  generalize (stepE l m d s t).slot = s0 at *
  generalize (stepE l m d s t).frm = s1 at *
  generalize (stepE l m d s t).heard = s2 at *
  generalize (stepE l m d s t).value = s3 at *
  generalize (stepF l m d s).1 = c1 at *
  generalize (stepF l m d s).2 = p1 at *
  generalize sendT l m d s node value = tx at *
  generalize (sendF l m d s node value).1 = c2 at *
  generalize (sendF l m d s node value).2 = p2 at *
  clear hG hT hn hr
  go_enter Tryz.func4, Tryz.ntmps4
  go_wp2_with fail
  refine K0.out.mono ?_
  rintro e w1 ⟨rfl, hb1⟩
  have hv1 := (hb0.trans (hb1.mono hb0.size)).drew
  have b1 := (b0.kept hb1).kept (Below.refl _ _).drew
  have k0 := b1.cell 0 rfl
  have k1 := b1.cell 1 rfl
  have k2 := b1.cell 2 rfl
  have A1 := Lib.hid (MC.out _ hv1)
  clear hb1 b0 hb0
  go_wp2
  go_region_held3 (fun w' => w'.cell? ⟨w.heap.size, 0, none⟩ = some (.int .i64 m) ∧ w'.cell? ⟨w.heap.size, 1, none⟩ = some (.int .i64 d) ∧ w'.cell? ⟨w.heap.size, 2, none⟩ = some (.int .i64 s)) (go_keep)
    (first
      | (go_at_call 32; (with_reducible refine A1.out.mono ?_); rintro e w2 ⟨rfl, hb2⟩; have hv2 := hv1.trans (hb2.mono hv1.size); have b2 := b1.kept hb2; have k0 := b2.cell 0 rfl; have k1 := b2.cell 1 rfl; have k2 := b2.cell 2 rfl; have A2 := Lib.hid (RV.out w2); clear hb2)
      | (go_at_call 33; (with_reducible refine A2.out.mono ?_); rintro e w3 ⟨rfl, hb2⟩; have hv3 := hv2.trans (hb2.mono hv2.size); have b3 := b2.kept hb2; have k0 := b3.cell 0 rfl; have k1 := b3.cell 1 rfl; have k2 := b3.cell 2 rfl; have A3 := Lib.hid (C2.out w3 hv3); clear hb2)
      | (go_at_call 31; (with_reducible refine A3.out.mono ?_); rintro e w4 ⟨rfl, hb2⟩; have hv4 := hv3.trans (hb2.mono hv3.size); have b4 := b3.kept hb2; have k0 := b4.cell 0 rfl; have k1 := b4.cell 1 rfl; have k2 := b4.cell 2 rfl; clear hb2))
  clear b1 b2 b3 hv1 hv2 hv3
  go_wp2_with fail
  refine (PS.out _ hv4).mono ?_
  rintro e w5 ⟨v, rfl, hE, hb5⟩
  have hv5 := hv4.trans (hb5.mono hv4.size)
  have b5 := b4.kept hb5
  have hv6 := (hv5.alloc hv5.size (.cells #[.int .i64 y1, .int .i64 y2, .int .i64 y3] 49)).alloc (by have := hv5.size; simp; omega) (.cells #[.int .i64 s0, .int .i64 s1, .bool s2, .int .i64 s3] 53)
  have bx := (Blok.new w5 49 #[.int .i64 y1, .int .i64 y2, .int .i64 y3]).alloc (.cells #[.int .i64 s0, .int .i64 s1, .bool s2, .int .i64 s3] 53)
  have be := Blok.new (w5.alloc (.cells #[.int .i64 y1, .int .i64 y2, .int .i64 y3] 49)) 53 #[.int .i64 s0, .int .i64 s1, .bool s2, .int .i64 s3]
  rw [World.size_alloc] at be
  have b6 := (b5.alloc (.cells #[.int .i64 y1, .int .i64 y2, .int .i64 y3] 49)).alloc (.cells #[.int .i64 s0, .int .i64 s1, .bool s2, .int .i64 s3] 53)
  have hE := hE.below ((Below.refl w5.heap.size w5).alloc (Nat.le_refl _) (.cells #[.int .i64 y1, .int .i64 y2, .int .i64 y3] 49))
  have hE := hE.below ((Below.refl (w5.alloc (.cells #[.int .i64 y1, .int .i64 y2, .int .i64 y3] 49)).heap.size (w5.alloc (.cells #[.int .i64 y1, .int .i64 y2, .int .i64 y3] 49))).alloc (Nat.le_refl _) (.cells #[.int .i64 s0, .int .i64 s1, .bool s2, .int .i64 s3] 53))
  have k0 := b6.cell 0 rfl
  have k1 := b6.cell 1 rfl
  have k2 := b6.cell 2 rfl
  clear hb5 b5 b4 hv4
  go_wp2_with fail
  generalize hW6 : (w5.alloc (.cells #[.int .i64 y1, .int .i64 y2, .int .i64 y3] 49)).alloc (.cells #[.int .i64 s0, .int .i64 s1, .bool s2, .int .i64 s3] 53) = w6 at *
  generalize w5.heap.size = G at *
  clear hW6
  refine (RS.out _ hv6).mono ?_
  rintro e w7 ⟨rfl, hb7⟩
  have hv7 := hv6.trans (hb7.mono hv6.size)
  have bx := bx.kept hb7
  have be := be.kept hb7
  have b7 := b6.kept hb7
  have hE := hE.below hb7
  have hz1 : (w7.alloc (.cells #[.int .i64 y1, .int .i64 y2, .int .i64 y3] 49)).heap.size = w7.heap.size + 1 := World.size_alloc _ _
  have hz2 : ((w7.alloc (.cells #[.int .i64 y1, .int .i64 y2, .int .i64 y3] 49)).alloc (.cells #[.int .i64 s0, .int .i64 s1, .bool s2, .int .i64 s3] 53)).heap.size = w7.heap.size + 1 + 1 := by rw [World.size_alloc, World.size_alloc]
  have hs7 := hv7.size
  have hv8 := ((hv7.alloc hv7.size (.cells #[.int .i64 y1, .int .i64 y2, .int .i64 y3] 49)).alloc (by rw [hz1]; omega) (.cells #[.int .i64 s0, .int .i64 s1, .bool s2, .int .i64 s3] 53)).alloc (by rw [hz2]; omega) (.cells #[.int .i64 c1, .int .i64 p1] 42)
  have bx := ((bx.alloc (.cells #[.int .i64 y1, .int .i64 y2, .int .i64 y3] 49)).alloc (.cells #[.int .i64 s0, .int .i64 s1, .bool s2, .int .i64 s3] 53)).alloc (.cells #[.int .i64 c1, .int .i64 p1] 42)
  have be := ((be.alloc (.cells #[.int .i64 y1, .int .i64 y2, .int .i64 y3] 49)).alloc (.cells #[.int .i64 s0, .int .i64 s1, .bool s2, .int .i64 s3] 53)).alloc (.cells #[.int .i64 c1, .int .i64 p1] 42)
  have b8 := ((b7.alloc (.cells #[.int .i64 y1, .int .i64 y2, .int .i64 y3] 49)).alloc (.cells #[.int .i64 s0, .int .i64 s1, .bool s2, .int .i64 s3] 53)).alloc (.cells #[.int .i64 c1, .int .i64 p1] 42)
  have cx := ((Blok.new w7 49 #[.int .i64 y1, .int .i64 y2, .int .i64 y3]).alloc (.cells #[.int .i64 s0, .int .i64 s1, .bool s2, .int .i64 s3] 53)).alloc (.cells #[.int .i64 c1, .int .i64 p1] 42)
  have ce := (Blok.new (w7.alloc (.cells #[.int .i64 y1, .int .i64 y2, .int .i64 y3] 49)) 53 #[.int .i64 s0, .int .i64 s1, .bool s2, .int .i64 s3]).alloc (.cells #[.int .i64 c1, .int .i64 p1] 42)
  rw [hz1] at ce
  have cf := Blok.new ((w7.alloc (.cells #[.int .i64 y1, .int .i64 y2, .int .i64 y3] 49)).alloc (.cells #[.int .i64 s0, .int .i64 s1, .bool s2, .int .i64 s3] 53)) 42 #[.int .i64 c1, .int .i64 p1]
  rw [hz2] at cf
  have hE := hE.below ((Below.refl w7.heap.size w7).alloc (Nat.le_refl _) (.cells #[.int .i64 y1, .int .i64 y2, .int .i64 y3] 49))
  have hE := hE.below ((Below.refl (w7.alloc (.cells #[.int .i64 y1, .int .i64 y2, .int .i64 y3] 49)).heap.size (w7.alloc (.cells #[.int .i64 y1, .int .i64 y2, .int .i64 y3] 49))).alloc (Nat.le_refl _) (.cells #[.int .i64 s0, .int .i64 s1, .bool s2, .int .i64 s3] 53))
  have hE := hE.below ((Below.refl ((w7.alloc (.cells #[.int .i64 y1, .int .i64 y2, .int .i64 y3] 49)).alloc (.cells #[.int .i64 s0, .int .i64 s1, .bool s2, .int .i64 s3] 53)).heap.size ((w7.alloc (.cells #[.int .i64 y1, .int .i64 y2, .int .i64 y3] 49)).alloc (.cells #[.int .i64 s0, .int .i64 s1, .bool s2, .int .i64 s3] 53))).alloc (Nat.le_refl _) (.cells #[.int .i64 c1, .int .i64 p1] 42))
  have g0 := cf.cell 0 rfl
  have g1 := cf.cell 1 rfl
  clear hb7 b7 b6 k0 k1 k2
  go_wp2_with fail
  generalize hW8 : ((w7.alloc (.cells #[.int .i64 y1, .int .i64 y2, .int .i64 y3] 49)).alloc (.cells #[.int .i64 s0, .int .i64 s1, .bool s2, .int .i64 s3] 53)).alloc (.cells #[.int .i64 c1, .int .i64 p1] 42) = w8 at *
  generalize hH : w7.heap.size = H at *
  clear hW8
  refine (F1.out _ _ hv8 hE).mono ?_
  rintro e w9 ⟨rfl, hb9⟩
  have hv9 := hv8.trans (hb9.mono hv8.size)
  have bx := bx.kept hb9
  have be := be.kept hb9
  have cx := cx.kept hb9
  have ce := ce.kept hb9
  have cf := cf.kept hb9
  have b9 := b8.kept hb9
  have x0 := bx.cell 0 rfl
  have x1 := bx.cell 1 rfl
  have x2 := bx.cell 2 rfl
  have x3 := cx.cell 0 rfl
  have x4 := cx.cell 1 rfl
  have x5 := cx.cell 2 rfl
  have z0 := be.cell 0 rfl
  have z1 := be.cell 1 rfl
  have z2 := be.cell 2 rfl
  have z3 := be.cell 3 rfl
  have z4 := ce.cell 0 rfl
  have z5 := ce.cell 1 rfl
  have z6 := ce.cell 2 rfl
  have z7 := ce.cell 3 rfl
  have k0 := b9.cell 0 rfl
  have k1 := b9.cell 1 rfl
  have k2 := b9.cell 2 rfl
  clear hE hb9 b8 g0 g1 hv8 hv7 hv6 hv5
  go_wp2_with fail
  refine (PN.out _ hv9).mono ?_
  rintro e wA ⟨v2, rfl, hE, hbA⟩
  have hvA := hv9.trans (hbA.mono hv9.size)
  have cf := cf.kept hbA
  have bA := b9.kept hbA
  have k0 := bA.cell 0 rfl
  have k1 := bA.cell 1 rfl
  have k2 := bA.cell 2 rfl
  clear hbA hv9 b9 x0 x1 x2 x3 x4 x5 z0 z1 z2 z3 z4 z5 z6 z7 bx be cx ce
  go_wp2_with fail
  refine (RN.out _ hvA).mono ?_
  rintro e wB ⟨rfl, hbB⟩
  have hvB := hvA.trans (hbB.mono hvA.size)
  have cf := cf.kept hbB
  have hE := hE.below hbB
  have j0 := cf.cell 0 rfl
  have j1 := cf.cell 1 rfl
  have q0 := cf.frozen 0
  have q1 := cf.frozen 1
  have hE := hE.set2 j1 (.int .i64 c2) (.int .i64 p2)
  have hvC := (hvB.setCell (show w.heap.size ≤ (⟨H + 1 + 1, 0, none⟩ : Addr).block by show w.heap.size ≤ H + 1 + 1; omega) (.int .i64 c2)).setCell (show w.heap.size ≤ (⟨H + 1 + 1, 1, none⟩ : Addr).block by show w.heap.size ≤ H + 1 + 1; omega) (.int .i64 p2)
  have cf := cf.two (.int .i64 c2) (.int .i64 p2)
  have g0 := cf.cell 0 rfl
  have g1 := cf.cell 1 rfl
  go_wp2_with fail
  refine (F2.out _ _ hvC hE).mono ?_
  rintro e wD ⟨rfl, hbD⟩
  go_wp2
  go_ret
  exact ⟨rfl, hvC.trans (hbD.mono hvC.size)⟩

set_option maxRecDepth 100000 in
theorem walk_MemberTells (ea : Nat → Addr) (a : Option Addr) (n cap : Nat) (l : List Int) (m d s : Int) (t : List UInt8) (node value : Int) (w : World) (hG : GlobC w ea) (hT : TxtEnv w)
    (hn : l.length = n) (hr : RowAt w a (encInts l)) (_hc : n ≤ cap) (_hm : n ≤ 4611686018427387904) (_hv : (-9223372036854775808 ≤ m ∧ m ≤ 9223372036854775807) ∧ (-9223372036854775808 ≤ d ∧ d ≤ 9223372036854775807) ∧ (-9223372036854775808 ≤ s ∧ s ≤ 9223372036854775807)) (ht : t.length ≤ maxLen)
    (_hnd : -9223372036854775808 ≤ node ∧ node ≤ 9223372036854775807) (_hvl : -9223372036854775808 ≤ value ∧ value ≤ 9223372036854775807) :
    Calls Tryz.prog 4 #[.slice a n cap, .agg #[.int .i64 m, .int .i64 d, .int .i64 s], .string ⟨t.toArray⟩, .int .i64 node, .int .i64 value] w fun e w' => e = .returned (.bool true) ∧ Below w.heap.size w w' := by
  by_cases h : n ≤ 40 ∧ t.length ≤ 150
  · exact memTells_law ea a n cap l m d s t node value w hG hT hn hr h.1 h.2
  · have hb0 : Below w.heap.size w (w.alloc (.cells #[.int .i64 m, .int .i64 d, .int .i64 s] 49)) := (Below.refl _ _).alloc (Nat.le_refl _) _
    have K0 := Lib.hid (stepped_any ea _ ((hG.below hb0).glob.sub (by simp)) (hT.below hb0))
    have ht2 : t.length ≤ 9223372036854775807 := ht
    clear hG hT hn hr ht
    by_cases h1 : n ≤ 40
    · have d1 : decide ((40 : Int) < (n : Int)) = false := decide_eq_false (by omega)
      have d2 : decide ((150 : Int) < (t.length : Int)) = true := decide_eq_true (by omega)
      clear h h1
      go_enter Tryz.func4, Tryz.ntmps4
      go_wp2_with fail
      refine K0.out.mono ?_
      rintro e w1 ⟨rfl, hb1⟩
      go_wp2
      go_ret
      exact ⟨rfl, hb0.trans (hb1.mono hb0.size)⟩
    · have d1 : decide ((40 : Int) < (n : Int)) = true := decide_eq_true (by omega)
      clear h h1
      go_enter Tryz.func4, Tryz.ntmps4
      go_wp2_with fail
      refine K0.out.mono ?_
      rintro e w1 ⟨rfl, hb1⟩
      go_wp2
      go_ret
      exact ⟨rfl, hb0.trans (hb1.mono hb0.size)⟩
end Go.Proofs.YtgghnncgeogemaaGreatDoor
