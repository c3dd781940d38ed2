/- the reference's StepOf, whatever is heard. -/
import Derived.Test.YtoekajpjfoolpaaGreatDoorRefReadF
import Derived.Test.YtoekajpjfoolpaaGreatDoorRefStep2
namespace Go.Proofs.YtoekajpjfoolpaaGreatDoor
open Go.RowKit

theorem step_and (ec : Nat) (x0 y0 x1 y1 x2 y2 x3 y3 : Int) : ((((((ec : Int) == 0) && (x0 == y0)) && (x1 == y1)) && (x2 == y2)) && (x3 == y3)) = decide (ec = 0 ∧ x0 = y0 ∧ x1 = y1 ∧ x2 = y2 ∧ x3 = y3) := by
  rw [Bool.eq_iff_iff]
  simp only [Bool.and_eq_true, beq_iff_eq, decide_eq_true_eq, and_assoc]
  constructor <;> (rintro ⟨a, b, c, d, e⟩; exact ⟨by omega, b, c, d, e⟩)
theorem stepOf_any (a : Option Addr) (n cap : Nat) (l : List Int) (m d s : Int) (t : List UInt8) (w : World) (hn : l.length = n) (hr : RowAt w a (encInts l)) (hc : n ≤ 4611686018427387904) (ht : t.length ≤ 100000) :
    Calls Tryz.prog 120 #[.slice a n cap, .agg #[.int .i64 m, .int .i64 d, .int .i64 s], .string ⟨t.toArray⟩] w fun e w' =>
      e = .returned (.tuple #[.agg #[.int .i64 (stepV l m d s t).1, .int .i64 (stepV l m d s t).2.1, .int .i64 (stepV l m d s t).2.2], (stepE l m d s t).v, .agg #[.int .i64 (stepF l m d s).1, .int .i64 (stepF l m d s).2]]) ∧ Below w.heap.size w w' := by
  by_cases h : (planF l).1 = 0
  · by_cases hV : viewE m d s = 0
    · have hM : (memRF l m d s).1 = 0 := by rw [memRF, if_pos h, hV]
      obtain ⟨hcm, hvd⟩ := viewE_zero hV
      by_cases hs : 1000000 ≤ s
      · have hs' : s = 1000000 := by simp only [viewB, decide_eq_true_eq] at hvd; omega
        have hF : stepF l m d s = (7, -1) := by rw [stepF, if_pos hM, if_pos hs]
        have hW : stepV l m d s t = (0, 0, 0) := by rw [stepV, if_neg (by rw [hF]; simp)]
        have hE : stepE l m d s t = ⟨0, 0, false, 0⟩ := by rw [stepE, if_neg (by rw [hF]; simp)]
        rw [hF, hW, hE]
        exact stepOf_full a n cap l m d s t w hn hr hc h hV hs'
      · obtain ⟨k, rfl, hk⟩ := crew_nat hcm
        obtain ⟨q, rfl⟩ : ∃ q : Nat, s = q := ⟨s.toNat, by simp only [viewB, decide_eq_true_eq] at hvd; omega⟩
        have hs2 : q < 1000000 := by omega
        have hF : stepF l k d q = (0, -1) := by rw [stepF, if_pos hM, if_neg hs]
        have hnd : nodeB (whoV l q) = true := (planF_ok h).2.2.2 _ (whoV_mem l _ (planF_ok h).2.1)
        have hW : stepV l k d q t = ((stepM l k d q t : Int), d, (q : Int) + 1) := by rw [stepV, if_pos (by rw [hF])]
        have hE : stepE l k d q t = ⟨q, whoV l q, stepOk l k d q t, if stepOk l k d q t then (frameF t).2.value else 0⟩ := by rw [stepE, if_pos (by rw [hF])]; rfl
        have hO : stepOk l k d q t = stepB (whoV l q) k d q t := rfl
        have hMM : stepM l k d q t = if stepOk l k d q t then k ||| bitOf (whoV l q) else lessN (k ||| bitOf (whoV l q)) (bitOf (whoV l q)) := rfl
        have KRF := fun W : World => readFrame_any t W ht
        simp only [Frm.arr] at KRF
        have hB : stepB (whoV l q) k d q t = decide ((frameF t).1 = 0 ∧ (frameF t).2.frm = whoV l q ∧ (frameF t).2.mem = ((k ||| bitOf (whoV l q) : Nat) : Int) ∧ (frameF t).2.mode = d ∧ (frameF t).2.slot = q) := rfl
        rw [hF, hW, hE, hMM, hO]
        obtain ⟨G, hG⟩ : ∃ G, G = stepB (whoV l q) k d q t := ⟨_, rfl⟩
        rw [← hG] at hB ⊢
        cases hH : hasB k (whoV l q)
        · obtain ⟨e1, e2⟩ := step_new hk hnd hH
          have e3 : ((k ||| bitOf (whoV l q) : Nat) : Int) = (k : Int) + (bitOf (whoV l q) : Nat) := by rw [e1]; push_cast; rfl
          have hC := (step_and (frameF t).1 (frameF t).2.frm (whoV l q) (frameF t).2.mem ((k : Int) + (bitOf (whoV l q) : Nat)) (frameF t).2.mode d (frameF t).2.slot q).trans (show _ = G by rw [hB, e3])
          cases G
          · exact stepOf_g0 a n cap l k _ q d _ _ _ _ _ _ _ ((k : Int) + (bitOf (whoV l q) : Nat)) (k : Int) _ _ false _ t w hn hr hc h hV hs2 rfl hk rfl hH KRF rfl rfl hC rfl (by simp [e2]) rfl
          · exact stepOf_g1 a n cap l k _ q d _ _ _ _ _ _ _ ((k : Int) + (bitOf (whoV l q) : Nat)) (k : Int) _ _ false _ t w hn hr hc h hV hs2 rfl hk rfl hH KRF rfl rfl hC rfl (by simp [e3]) rfl
        · obtain ⟨e1, e2⟩ := step_has hk hnd hH
          have e4 : ((lessN (k ||| bitOf (whoV l q)) (bitOf (whoV l q)) : Nat) : Int) = (k : Int) - (bitOf (whoV l q) : Nat) := by omega
          have hC := (step_and (frameF t).1 (frameF t).2.frm (whoV l q) (frameF t).2.mem (k : Int) (frameF t).2.mode d (frameF t).2.slot q).trans (show _ = G by rw [hB, e1])
          cases G
          · exact stepOf_g0 a n cap l k _ q d _ _ _ _ _ _ _ (k : Int) ((k : Int) - (bitOf (whoV l q) : Nat)) _ _ true _ t w hn hr hc h hV hs2 rfl hk rfl hH KRF rfl rfl hC rfl (by simp [e4]) rfl
          · exact stepOf_g1 a n cap l k _ q d _ _ _ _ _ _ _ (k : Int) ((k : Int) - (bitOf (whoV l q) : Nat)) _ _ true _ t w hn hr hc h hV hs2 rfl hk rfl hH KRF rfl rfl hC rfl (by simp [e1]) rfl
    · have hM : memRF l m d s = (2, -1) := by rw [memRF, if_pos h, viewE_two hV]
      have hF : stepF l m d s = (2, -1) := by rw [stepF, hM]; rfl
      have hW : stepV l m d s t = (0, 0, 0) := by rw [stepV, if_neg (by rw [hF]; simp)]
      have hE : stepE l m d s t = ⟨0, 0, false, 0⟩ := by rw [stepE, if_neg (by rw [hF]; simp)]
      rw [hF, hW, hE]
      exact stepOf_view a n cap l m d s t w hn hr hc h (viewE_two hV)
  · have hM : memRF l m d s = planF l := by rw [memRF, if_neg h]
    have hF : stepF l m d s = planF l := by rw [stepF, hM, if_neg h]
    have hW : stepV l m d s t = (0, 0, 0) := by rw [stepV, if_neg (by rw [hF]; exact h)]
    have hE : stepE l m d s t = ⟨0, 0, false, 0⟩ := by rw [stepE, if_neg (by rw [hF]; exact h)]
    rw [hF, hW, hE]
    exact stepOf_bad a n cap l m d s t w hn hr hc h
end Go.Proofs.YtoekajpjfoolpaaGreatDoor
