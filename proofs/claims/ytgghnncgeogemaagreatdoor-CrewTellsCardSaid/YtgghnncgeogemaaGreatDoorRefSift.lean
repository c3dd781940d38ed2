/- the reference's sift, TwoError. -/
import Derived.Test.YtgghnncgeogemaaGreatDoorRefHas
import Derived.Test.YtgghnncgeogemaaGreatDoorCrewPlain
namespace Go.Proofs.YtgghnncgeogemaaGreatDoor
open Go.RowKit

theorem twoError_any (a b : Int) (w : World) :
    Calls Tryz.prog 6 #[.int .i64 a, .int .i64 b] w fun e w' => e = .returned (.int .i64 (twoE a b)) ∧ w = w' := by
  have KA := Lib.hid (fun (W : World) => isCrew_any a W)
  have KB := Lib.hid (fun (W : World) => isCrew_any b W)
  have hE : twoE a b = if crewB a && crewB b then 0 else 2 := rfl
  cases ha : crewB a <;> cases hb : crewB b
  all_goals
    rw [ha, hb] at hE
    have HE := Lib.hid hE
    rw [ha] at KA
    rw [hb] at KB
    clear ha hb hE
    go_enter Tryz.func6, Tryz.ntmps6
    go_wp2_with fail
    refine (KA.out _).mono ?_
    rintro e w1 ⟨rfl, rfl⟩
    go_wp2_with fail
    refine (KB.out _).mono ?_
    rintro e w1 ⟨rfl, rfl⟩
    go_wp2
    go_ret
    exact ⟨by rw [HE.out]; rfl, rfl⟩

/-- Those of a, for which in b it is so. -/
def siftB (a b : Int) (f : Bool) (i : Nat) : Bool := hasB a ((i : Int) + 1) && (hasB b ((i : Int) + 1) == f)
set_option maxRecDepth 100000 in
set_option maxHeartbeats 800000 in
theorem sift_any (a b : Int) (f : Bool) (w : World) :
    Calls Tryz.prog 51 #[.int .i64 a, .int .i64 b, .bool f] w fun e w' => e = .returned (.int .i64 (sumBits (siftB a b f) 16)) ∧ w = w' := by
  have KA := Lib.hid (fun (k : Int) (W : World) => refHas_any a k W)
  have KB := Lib.hid (fun (k : Int) (W : World) => refHas_any b k W)
  have HS := Lib.hid (fun j : Nat => show sumBits (siftB a b f) (j + 1) = sumBits (siftB a b f) j + if siftB a b f j then pw j else 0 from rfl)
  have HL := Lib.hid (fun j (hj : j ≤ 16) => show sumBits (siftB a b f) j ≤ 65536 by
    have := sumBits_lt (siftB a b f) j
    have h2 := Nat.pow_le_pow_right (n := 2) (by omega) hj
    simp only [Nat.reducePow] at h2; omega)
  go_enter Tryz.func51, Tryz.ntmps51
  go_wp2
  go_loop [7, 8] (fun c i => ∃ j : Nat, j ≤ 16 ∧ i = .int .i64 ((j : Int) + 1) ∧ c = .int .i64 (sumBits (siftB a b f) j)) (fun _ i => 18 - (intOf i).toNat)
  case atStart => exact ⟨0, Nat.zero_le _, by simp, by simp [sumBits]⟩
  case round =>
    obtain ⟨j, hj, rfl, rfl⟩ := hrel
    by_cases hlt : j < 16
    · have hp := pw_le (k := j) (by omega)
      have hs := HL.out j (by omega)
      have HX := Lib.hid (HS.out j)
      have K1 := Lib.hid (fun (W : World) => KA.out ((j : Int) + 1) W)
      have K2 := Lib.hid (fun (W : World) => KB.out ((j : Int) + 1) W)
      have KP := Lib.hid (fun (W : World) => powerOf_any' j W hlt)
      have hsb : siftB a b f j = (hasB a ((j : Int) + 1) && (hasB b ((j : Int) + 1) == f)) := rfl
      generalize hasB a ((j : Int) + 1) = x at *
      generalize hasB b ((j : Int) + 1) = y at *
      rw [hsb] at HX
      generalize sumBits (siftB a b f) j = S at *
      clear hsb
      cases x
      · go_wp2_with fail
        refine (K1.out _).mono ?_
        rintro e w1 ⟨rfl, rfl⟩
        go_wp2_with fail
        refine (K2.out _).mono ?_
        rintro e w1 ⟨rfl, rfl⟩
        go_wp2
        go_round
        case rel => exact ⟨j + 1, by omega, by go_num, by rw [HX.out]; rfl⟩
        case measure => simp [intOf]; omega
      · cases hyf : (y == f)
        · rw [hyf] at HX
          go_wp2_with fail
          refine (K1.out _).mono ?_
          rintro e w1 ⟨rfl, rfl⟩
          go_wp2_with fail
          refine (K2.out _).mono ?_
          rintro e w1 ⟨rfl, rfl⟩
          go_wp2
          go_round
          case rel => exact ⟨j + 1, by omega, by go_num, by rw [HX.out]; rfl⟩
          case measure => simp [intOf]; omega
        · rw [hyf] at HX
          go_wp2_with fail
          refine (K1.out _).mono ?_
          rintro e w1 ⟨rfl, rfl⟩
          go_wp2_with fail
          refine (K2.out _).mono ?_
          rintro e w1 ⟨rfl, rfl⟩
          go_wp2_with fail
          refine (KP.out _).mono ?_
          rintro e w1 ⟨rfl, rfl⟩
          go_wp2
          go_round
          case rel => exact ⟨j + 1, by omega, by go_num, by rw [HX.out, if_pos (show (true && true) = true from rfl)]; go_num⟩
          case measure => simp [intOf]; omega
    · obtain rfl : j = 16 := by omega
      go_wp2
      go_ret
      exact ⟨rfl, rfl⟩

theorem two16 : (2 : Nat) ^ 16 = 65536 := by decide
theorem sift_true {a b : Nat} (ha : a < 65536) (hb : b < 65536) : sumBits (siftB a b true) 16 = a &&& b := by
  refine sumBits_eq (Nat.and_lt_two_pow _ (by rw [two16]; exact hb)) fun i hi => ?_
  rw [siftB, hasB_bit a i ha hi, hasB_bit b i hb hi, Nat.testBit_and]
  cases a.testBit i <;> cases b.testBit i <;> rfl
theorem sift_false {a b : Nat} (ha : a < 65536) (hb : b < 65536) : sumBits (siftB a b false) 16 = lessN a b := by
  refine sumBits_eq (Nat.xor_lt_two_pow (by rw [two16]; exact ha) (Nat.and_lt_two_pow _ (by rw [two16]; exact hb))) fun i hi => ?_
  rw [siftB, hasB_bit a i ha hi, hasB_bit b i hb hi, lessN_bit]
  cases a.testBit i <;> cases b.testBit i <;> rfl
theorem sumBits_add {p q : Nat → Bool} (h : ∀ i, p i = true → q i = false) : ∀ k, sumBits p k + sumBits q k = sumBits (fun i => p i || q i) k
  | 0 => rfl
  | k + 1 => by
    have e := sumBits_add h k
    have hk := h k
    simp only [sumBits]
    rw [← e]
    by_cases hp : p k = true
    · have hq := hk hp
      simp only [hp, hq, Bool.or_false, if_true, Bool.false_eq_true, if_false]; omega
    · have hp' : p k = false := by simpa using hp
      simp only [hp', Bool.false_or, Bool.false_eq_true, if_false]; omega
theorem less_add {a b : Nat} (ha : a < 65536) (hb : b < 65536) : b + lessN a b = a ||| b := by
  have e1 : sumBits (fun i => b.testBit i) 16 = b := sumBits_eq (by rw [two16]; exact hb) fun i _ => rfl
  have e2 : sumBits (fun i => (lessN a b).testBit i) 16 = lessN a b := sumBits_eq (Nat.xor_lt_two_pow (by rw [two16]; exact ha) (Nat.and_lt_two_pow _ (by rw [two16]; exact hb))) fun i _ => rfl
  have e3 := sumBits_add (p := fun i => b.testBit i) (q := fun i => (lessN a b).testBit i) (fun i hi => by
    have hi' : b.testBit i = true := hi
    show (lessN a b).testBit i = false
    rw [lessN_bit, hi']; simp) 16
  rw [e1, e2] at e3
  rw [e3]
  refine sumBits_eq (Nat.or_lt_two_pow (by rw [two16]; exact ha) (by rw [two16]; exact hb)) fun i _ => ?_
  rw [lessN_bit, Nat.testBit_or]
  cases a.testBit i <;> cases b.testBit i <;> rfl
end Go.Proofs.YtgghnncgeogemaaGreatDoor
