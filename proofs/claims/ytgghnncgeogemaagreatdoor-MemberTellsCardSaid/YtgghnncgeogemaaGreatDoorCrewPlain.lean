/- math/bits.OnesCount of a crew; crew.Many. · Crews: what CrewParts says of them, in plain Lean. · A node comes into a crew and goes out of it: in plain Lean. -/
import Derived.Test.YtgghnncgeogemaaGreatDoorCrewIter
import Derived.Test.YtgghnncgeogemaaGreatDoorCrewText
namespace Go.Proofs.YtgghnncgeogemaaGreatDoor
open Go.RowKit

/-- How many bits below k. -/
def popTo (c : Nat) : Nat → Nat
  | 0 => 0
  | k + 1 => popTo c k + c / 2 ^ k % 2
def pop (c : Nat) : Nat := popTo c 16

/-- The library's way: in parallel. -/
def onesA (x : Nat) : Nat := (x / 2 &&& 6148914691236517205) + (x &&& 6148914691236517205)
def onesB (x : Nat) : Nat := (x / 4 &&& 3689348814741910323) + (x &&& 3689348814741910323)
def onesC (x : Nat) : Nat := (x / 16 + x) &&& 1085102592571150095
def onesD (k x : Nat) : Nat := x + x / k
def onesR (x : Nat) : Nat := onesD 4294967296 (onesD 65536 (onesD 256 (onesC x))) &&& 127
def t1 (x : Nat) : Nat := (x / 2 &&& 85) + (x &&& 85)
def t2 (x : Nat) : Nat := (x / 4 &&& 51) + (x &&& 51)
theorem and_split (k a b M N : Nat) (hb : b < 2 ^ k) (hN : N < 2 ^ k) : (2 ^ k * a + b) &&& (2 ^ k * M + N) = 2 ^ k * (a &&& M) + (b &&& N) := by
  have hbn : b &&& N < 2 ^ k := Nat.and_lt_two_pow _ hN
  apply Nat.eq_of_testBit_eq
  intro i
  rw [Nat.testBit_and, Nat.testBit_two_pow_mul_add _ hb, Nat.testBit_two_pow_mul_add _ hN, Nat.testBit_two_pow_mul_add _ hbn]
  split
  · rw [Nat.testBit_and]
  · rw [Nat.testBit_and]
theorem and_low (x M N : Nat) (hx : x < 65536) (hN : N < 65536) : x &&& (65536 * M + N) = x &&& N := by
  have := and_split 16 0 x M N (by simpa using hx) (by simpa using hN)
  simpa using this
theorem t1_half : ∀ r : Fin 2, ∀ b : Fin 256, (r.val * 128 + b.val / 2) &&& 85 = b.val / 2 &&& 85 := by decide +kernel
theorem t2_half : ∀ r : Fin 4, ∀ b : Fin 256, (r.val * 64 + b.val / 4) &&& 51 = b.val / 4 &&& 51 := by decide +kernel
theorem t12 : ∀ b : Fin 256, t1 b.val < 256 ∧ t2 (t1 b.val) / 16 < 5 ∧ t2 (t1 b.val) % 16 < 5 ∧ t2 (t1 b.val) / 16 + t2 (t1 b.val) % 16 = popTo b.val 8 := by decide +kernel
theorem onesR_fin : ∀ a b c d : Fin 5, onesR (256 * (16 * a.val + b.val) + (16 * c.val + d.val)) = (a.val + b.val) + (c.val + d.val) := by decide +kernel
theorem onesA_split (a b : Nat) (ha : a < 256) (hb : b < 256) : onesA (256 * a + b) = 256 * t1 a + t1 b := by
  have h1 := and_split 8 a b 85 85 hb (by decide)
  have h2 := and_split 8 (a / 2) (a % 2 * 128 + b / 2) 85 85 (by omega) (by decide)
  have h3 := t1_half ⟨a % 2, by omega⟩ ⟨b, hb⟩
  have e1 := and_low (256 * a + b) 93824992236885 21845 (by omega) (by decide)
  have e2 := and_low ((256 * a + b) / 2) 93824992236885 21845 (by omega) (by decide)
  simp only [Nat.reducePow, Nat.reduceMul, Nat.reduceAdd] at h1 h2 e1 e2 h3
  rw [onesA, e1, e2, show (256 * a + b) / 2 = 256 * (a / 2) + (a % 2 * 128 + b / 2) by omega, h1, h2, h3, t1, t1]
  omega
theorem onesB_split (a b : Nat) (ha : a < 256) (hb : b < 256) : onesB (256 * a + b) = 256 * t2 a + t2 b := by
  have h1 := and_split 8 a b 51 51 hb (by decide)
  have h2 := and_split 8 (a / 4) (a % 4 * 64 + b / 4) 51 51 (by omega) (by decide)
  have h3 := t2_half ⟨a % 4, by omega⟩ ⟨b, hb⟩
  have e1 := and_low (256 * a + b) 56294995342131 13107 (by omega) (by decide)
  have e2 := and_low ((256 * a + b) / 4) 56294995342131 13107 (by omega) (by decide)
  simp only [Nat.reducePow, Nat.reduceMul, Nat.reduceAdd] at h1 h2 e1 e2 h3
  rw [onesB, e1, e2, show (256 * a + b) / 4 = 256 * (a / 4) + (a % 4 * 64 + b / 4) by omega, h1, h2, h3, t2, t2]
  omega
theorem popTo_low (a b : Nat) (hb : b < 2 ^ 8) : ∀ k, k ≤ 8 → popTo (2 ^ 8 * a + b) k = popTo b k
  | 0, _ => rfl
  | k + 1, h => by
    rw [popTo, popTo, popTo_low a b hb k (by omega), ← Nat.toNat_testBit, ← Nat.toNat_testBit, Nat.testBit_two_pow_mul_add _ hb, if_pos (by omega)]
theorem popTo_high (a b : Nat) (hb : b < 2 ^ 8) : ∀ k, popTo (2 ^ 8 * a + b) (8 + k) = popTo b 8 + popTo a k
  | 0 => popTo_low a b hb 8 (Nat.le_refl _)
  | k + 1 => by
    show popTo (2 ^ 8 * a + b) (8 + k) + (2 ^ 8 * a + b) / 2 ^ (8 + k) % 2 = popTo b 8 + (popTo a k + a / 2 ^ k % 2)
    rw [popTo_high a b hb k, ← Nat.toNat_testBit, ← Nat.toNat_testBit, Nat.testBit_two_pow_mul_add _ hb, if_neg (by omega), show 8 + k - 8 = k by omega]
    omega
theorem ones_pop (c : Nat) (hc : c < 65536) : onesR (onesB (onesA c)) = pop c ∧ onesA c ≤ 65535 ∧ onesB (onesA c) ≤ 65535 := by
  obtain ⟨a, b, ha, hb, rfl⟩ : ∃ a b, a < 256 ∧ b < 256 ∧ c = 256 * a + b := ⟨c / 256, c % 256, by omega, by omega, by omega⟩
  obtain ⟨a1, a2, a2', a3⟩ := t12 ⟨a, ha⟩
  obtain ⟨b1, b2, b2', b3⟩ := t12 ⟨b, hb⟩
  simp only at a1 a2 a2' a3 b1 b2 b2' b3
  have hR := onesR_fin ⟨_, a2⟩ ⟨_, a2'⟩ ⟨_, b2⟩ ⟨_, b2'⟩
  simp only at hR
  rw [Nat.div_add_mod, Nat.div_add_mod, a3, b3] at hR
  have hp := popTo_high a b (by simpa using hb) 8
  simp only [Nat.reducePow, Nat.reduceAdd] at hp
  rw [onesA_split a b ha hb, onesB_split _ _ a1 b1, hR, pop, hp]
  exact ⟨Nat.add_comm _ _, by omega, by omega⟩
theorem and_u64 (a b : Nat) (ha : a < 9223372036854775808) (hb : b < 9223372036854775808) : bits .and .u64 (a : Int) (b : Int) = ((a &&& b : Nat) : Int) := by
  have hx : a &&& b < 2 ^ 63 := Nat.and_lt_two_pow _ (by omega)
  show IntKind.u64.wrap ((BitVec.ofInt 64 (a : Int) &&& BitVec.ofInt 64 (b : Int)).toNat : Int) = _
  rw [BitVec.toNat_and, ofInt_nat a ha, ofInt_nat b hb]
  unfold IntKind.wrap
  simp [IntKind.signed, IntKind.bits]
  omega

theorem popTo_list (c : Nat) (hc : c < 65536) : ∀ k, k ≤ 16 → popTo c k = (listTo c k).length
  | 0, _ => rfl
  | k + 1, h => by
    have ih := popTo_list c hc k (by omega)
    have hb : hasB (c : Int) ((k : Int) + 1) = c.testBit k := by
      have h1 : crewB (c : Int) = true := by simp only [crewB, decide_eq_true_eq]; omega
      have h2 : nodeB ((k : Int) + 1) = true := by simp only [nodeB, decide_eq_true_eq]; omega
      rw [hasB, h1, h2, Bool.true_and, Bool.true_and, Int.toNat_natCast, show ((k : Int) + 1).toNat - 1 = k by omega]
    rw [popTo, listTo, List.length_append, ih, hb, Nat.testBit_eq_decide_div_mod_eq]
    congr 1
    by_cases hx : c / 2 ^ k % 2 = 1
    · rw [if_pos (by simpa using hx), hx]; rfl
    · rw [if_neg (by simpa using hx)]; simp; omega
theorem pop_list (c : Nat) (hc : c < 65536) : pop c = (listTo c 16).length := popTo_list c hc 16 (Nat.le_refl _)

set_option maxRecDepth 100000 in
theorem ones64_any (c : Nat) (w : World) (hc : c < 65536) :
    Calls Tryz.prog 70 #[.int .u64 c] w fun e w' => e = .returned (.int .i64 (pop c)) ∧ w = w' := by
  obtain ⟨hp, hA, hB⟩ := ones_pop c hc
  have e1 : bits .and .u64 ((c : Int) / 2) 6148914691236517205 = ((c / 2 &&& 6148914691236517205 : Nat) : Int) := and_u64 (c / 2) 6148914691236517205 (by omega) (by omega)
  have e2 : bits .and .u64 (c : Int) 6148914691236517205 = ((c &&& 6148914691236517205 : Nat) : Int) := and_u64 c 6148914691236517205 (by omega) (by omega)
  have l1 : c / 2 &&& 6148914691236517205 ≤ c / 2 := Nat.and_le_left
  have l2 : c &&& 6148914691236517205 ≤ c := Nat.and_le_left
  rw [show onesA c = (c / 2 &&& 6148914691236517205) + (c &&& 6148914691236517205) from rfl] at hp hA hB
  generalize c / 2 &&& 6148914691236517205 = a1 at *
  generalize c &&& 6148914691236517205 = a2 at *
  have e3 : bits .and .u64 (((a1 : Int) + (a2 : Int)) / 4) 3689348814741910323 = (((a1 + a2) / 4 &&& 3689348814741910323 : Nat) : Int) := by
    rw [show ((a1 : Int) + (a2 : Int)) / 4 = (((a1 + a2) / 4 : Nat) : Int) by omega]; exact and_u64 _ 3689348814741910323 (by omega) (by omega)
  have e4 : bits .and .u64 ((a1 : Int) + (a2 : Int)) 3689348814741910323 = ((a1 + a2 &&& 3689348814741910323 : Nat) : Int) := by
    rw [show (a1 : Int) + (a2 : Int) = ((a1 + a2 : Nat) : Int) by omega]; exact and_u64 _ 3689348814741910323 (by omega) (by omega)
  rw [show onesB (a1 + a2) = ((a1 + a2) / 4 &&& 3689348814741910323) + (a1 + a2 &&& 3689348814741910323) from rfl] at hp hB
  generalize (a1 + a2) / 4 &&& 3689348814741910323 = b1 at *
  generalize a1 + a2 &&& 3689348814741910323 = b2 at *
  have e5 : bits .and .u64 (((b1 : Int) + (b2 : Int)) / 16 + ((b1 : Int) + (b2 : Int))) 1085102592571150095 = (((b1 + b2) / 16 + (b1 + b2) &&& 1085102592571150095 : Nat) : Int) := by
    rw [show ((b1 : Int) + (b2 : Int)) / 16 + ((b1 : Int) + (b2 : Int)) = (((b1 + b2) / 16 + (b1 + b2) : Nat) : Int) by omega]; exact and_u64 _ 1085102592571150095 (by omega) (by omega)
  have l3 : (b1 + b2) / 16 + (b1 + b2) &&& 1085102592571150095 ≤ (b1 + b2) / 16 + (b1 + b2) := Nat.and_le_left
  rw [show onesR (b1 + b2) = onesD 4294967296 (onesD 65536 (onesD 256 ((b1 + b2) / 16 + (b1 + b2) &&& 1085102592571150095))) &&& 127 from rfl] at hp
  generalize (b1 + b2) / 16 + (b1 + b2) &&& 1085102592571150095 = d at *
  have hd : d ≤ 100000 := by omega
  simp only [onesD] at hp
  have e6 : bits .and .i64 ((d : Int) + (d : Int) / 256 + ((d : Int) + (d : Int) / 256) / 65536 + ((d : Int) + (d : Int) / 256 + ((d : Int) + (d : Int) / 256) / 65536) / 4294967296) 127 = ((pop c : Nat) : Int) := by
    rw [← hp, show (d : Int) + (d : Int) / 256 + ((d : Int) + (d : Int) / 256) / 65536 + ((d : Int) + (d : Int) / 256 + ((d : Int) + (d : Int) / 256) / 65536) / 4294967296 = ((d + d / 256 + (d + d / 256) / 65536 + (d + d / 256 + (d + d / 256) / 65536) / 4294967296 : Nat) : Int) by omega]
    exact and_nat _ 127 (by omega) (by omega)
  clear hp l1 l2 l3
  have h1 : (c : Int) ≤ 65535 := by omega
  have h2 : (a1 : Int) + (a2 : Int) ≤ 65535 := by omega
  have h3 : (b1 : Int) + (b2 : Int) ≤ 65535 := by omega
  have h4 : (d : Int) ≤ 100000 := by omega
  go_enter Tryz.func70, Tryz.ntmps70
  go_wp2
  go_ret
  exact ⟨rfl, rfl⟩
set_option maxRecDepth 100000 in
theorem ones_any (c : Nat) (w : World) (hc : c < 65536) :
    Calls Tryz.prog 44 #[.int .u64 c] w fun e w' => e = .returned (.int .i64 (pop c)) ∧ w = w' := by
  have K := Lib.hid (ones64_any c w hc)
  have h1 : (c : Int) ≤ 65535 := by omega
  clear hc
  go_enter Tryz.func44, Tryz.ntmps44
  go_wp2_with (go_at_call 70; refine K.out.mono ?_; rintro e w' ⟨rfl, rfl⟩)
  go_ret
  exact ⟨rfl, rfl⟩
/-- crew.Many. -/
def manyF (c : Int) : Nat := if crewB c then pop c.toNat else 0
theorem many_any (ea : Nat → Addr) (c : Int) (w : World) (hg : Glob w ea [2]) :
    Calls Tryz.prog 13 #[.int .i64 c] w fun e w' => e = .returned (.int .i64 (manyF c)) ∧ w = w' := by
  have KC := Lib.hid (crewCheck_any ea c w hg)
  clear hg
  cases hc : crewB c
  · have HR : Hid (manyF c = 0) := by unfold Hid; rw [manyF, if_neg (by simp [hc])]
    have he : errV ea (crewE c) = .iface 187 (.pointer (some (ea 2))) := by rw [crewE, hc]; exact errV_pos ea (by decide)
    rw [he] at KC
    clear he hc
    go_enter Tryz.func13, Tryz.ntmps13
    go_wp2_with (go_at_call 10; refine KC.out.mono ?_; rintro e w' ⟨rfl, rfl⟩)
    go_ret
    exact ⟨by rw [HR.out]; rfl, rfl⟩
  · have he : errV ea (crewE c) = .nilIface := by rw [crewE, hc]; exact errV_zero ea
    rw [he] at KC
    obtain ⟨k, rfl⟩ : ∃ k : Nat, c = k := ⟨c.toNat, by simp [crewB] at hc; omega⟩
    have HR : Hid (manyF k = pop k) := by unfold Hid; rw [manyF, if_pos hc, Int.toNat_natCast]
    have hk : k < 65536 := by simp [crewB] at hc; omega
    have K := Lib.hid (ones_any k w hk)
    have h1 : (k : Int) ≤ 65535 := by omega
    clear he hc
    go_enter Tryz.func13, Tryz.ntmps13
    go_wp2_with (first
      | (go_at_call 10; refine KC.out.mono ?_; rintro e w' ⟨rfl, rfl⟩)
      | (go_at_call 44; refine K.out.mono ?_; rintro e w' ⟨rfl, rfl⟩))
    go_ret
    exact ⟨by rw [HR.out]; rfl, rfl⟩
end Go.Proofs.YtgghnncgeogemaaGreatDoor
namespace Go.Proofs.YtgghnncgeogemaaGreatDoor
open Go.RowKit

theorem popTo_bit (c k : Nat) : popTo c (k + 1) = popTo c k + (c.testBit k).toNat := by rw [popTo, Nat.toNat_testBit]
theorem pop_parts (a b : Nat) : ∀ k, popTo (lessN a b) k + popTo (a &&& b) k = popTo a k
  | 0 => rfl
  | k + 1 => by
    have ih := pop_parts a b k
    rw [popTo_bit, popTo_bit, popTo_bit, lessN, Nat.testBit_xor, Nat.testBit_and]
    rw [lessN] at ih
    cases a.testBit k <;> cases b.testBit k <;> simp <;> omega
theorem pop_apart (a b c : Nat) (h : a &&& b = 0) : ∀ k, popTo (a &&& c) k + popTo (b &&& c) k ≤ popTo c k
  | 0 => Nat.le_refl _
  | k + 1 => by
    have ih := pop_apart a b c h k
    have hk : (a &&& b).testBit k = false := by rw [h]; simp
    rw [Nat.testBit_and] at hk
    rw [popTo_bit, popTo_bit, popTo_bit, Nat.testBit_and, Nat.testBit_and]
    cases ha : a.testBit k <;> cases hb : b.testBit k <;> cases c.testBit k <;> rw [ha, hb] at hk <;> simp at hk ⊢ <;> omega
theorem less_or_both (a b : Nat) : lessN a b ||| (a &&& b) = a := by
  apply Nat.eq_of_testBit_eq
  intro i
  rw [Nat.testBit_or, lessN, Nat.testBit_xor, Nat.testBit_and]
  cases a.testBit i <;> cases b.testBit i <;> rfl
theorem hasB_bit (c k : Nat) (hc : c < 65536) (hk : k < 16) : hasB (c : Int) ((k : Int) + 1) = c.testBit k := by
  have h1 : crewB (c : Int) = true := by simp only [crewB, decide_eq_true_eq]; omega
  have h2 : nodeB ((k : Int) + 1) = true := by simp only [nodeB, decide_eq_true_eq]; omega
  rw [hasB, h1, h2, Bool.true_and, Bool.true_and, Int.toNat_natCast, show ((k : Int) + 1).toNat - 1 = k by omega]
theorem mod_two_step (c k : Nat) : c % 2 ^ (k + 1) = c % 2 ^ k ||| (if c.testBit k then 2 ^ k else 0) := by
  apply Nat.eq_of_testBit_eq
  intro i
  rw [Nat.testBit_mod_two_pow, Nat.testBit_or, Nat.testBit_mod_two_pow]
  cases hb : c.testBit k
  · rw [if_neg (by decide), Nat.zero_testBit, Bool.or_false]
    by_cases e : i = k
    · subst e; rw [hb]; simp
    · congr 1; rw [decide_eq_decide]; omega
  · rw [if_pos rfl, Nat.testBit_two_pow]
    by_cases e : i = k
    · subst e; rw [hb]; simp
    · rw [show decide (k = i) = false by simp; omega, Bool.or_false]; congr 1; rw [decide_eq_decide]; omega
theorem bitOf_succ (k : Nat) : bitOf ((k : Int) + 1) = 2 ^ k := by rw [bitOf, show ((k : Int) + 1).toNat - 1 = k by omega]
theorem crewOf_list (c : Nat) (hc : c < 65536) : ∀ k, k ≤ 16 → crewOf (listTo c k) = c % 2 ^ k
  | 0, _ => by simp [listTo, crewOf, Nat.mod_one]
  | k + 1, h => by
    have ih := crewOf_list c hc k (by omega)
    have hb := hasB_bit c k hc (by omega)
    rw [mod_two_step, ← ih, listTo, hb]
    cases c.testBit k
    · simp
    · simp only [if_true]; rw [crewOf, List.foldl_append]; simp only [List.foldl_cons, List.foldl_nil]; rw [bitOf_succ]; rfl
theorem crewOf_list16 (c : Nat) (hc : c < 65536) : crewOf (listTo c 16) = c := by rw [crewOf_list c hc 16 (Nat.le_refl _)]; exact Nat.mod_eq_of_lt (by simpa using hc)
theorem listTo_mem (c : Int) : ∀ k, k ≤ 16 → ∀ x ∈ listTo c k, nodeB x = true ∧ 1 ≤ x ∧ x ≤ k
  | 0, _, x, hx => by cases hx
  | k + 1, hk, x, hx => by
    rw [listTo, List.mem_append] at hx
    rcases hx with hx | hx
    · have := listTo_mem c k (by omega) x hx; exact ⟨this.1, this.2.1, by omega⟩
    · split at hx
      · simp at hx; subst hx; exact ⟨by simp only [nodeB, decide_eq_true_eq]; omega, by omega, by omega⟩
      · cases hx
theorem read_list (c : Nat) (hc : c < 65536) : ∀ k : Nat, k ≤ 16 → ∃ last : Int, 0 ≤ last ∧ last ≤ (k : Int) ∧ readAcc ((listTo c k).map Lib.itoa) = some (c % 2 ^ k, last)
  | 0, _ => ⟨0, by omega, by omega, by simp [listTo, readAcc, Nat.mod_one]⟩
  | k + 1, h => by
    obtain ⟨last, h1, h2, h3⟩ := read_list c hc k (by omega)
    have hb := hasB_bit c k hc (by omega)
    rw [mod_two_step, listTo, hb]
    cases c.testBit k
    · exact ⟨last, h1, by omega, by simpa using h3⟩
    · refine ⟨(k : Int) + 1, by omega, by omega, ?_⟩
      simp only [if_true, List.map_append, List.map_cons, List.map_nil]
      rw [readAcc_snoc, h3, readStep, Option.bind_some, readOk_of (n := (k : Int) + 1) rfl (by simp only [nodeB, decide_eq_true_eq]; omega) (by simp only; omega)]
      simp only [Option.map_some]
      rw [bitOf_succ]
theorem join_joinL (c : UInt8) : ∀ l : List (List UInt8), Lib.join l [c] = joinL c l
  | [] => rfl
  | [x] => by simp [Lib.join, List.intercalate, joinL]
  | x :: y :: r => by
    have ih := join_joinL c (y :: r)
    rw [joinL_cons c x (by simp), ← ih]
    simp [Lib.join, List.intercalate, List.intersperse]
theorem itoa_no {c : UInt8} (hc : c.toNat < 45 ∨ c.toNat = 46 ∨ c.toNat = 47 ∨ 57 < c.toNat) (n : Int) : c ∉ Lib.itoa n := by
  intro h
  unfold Lib.itoa at h
  split at h
  · rcases List.mem_cons.1 h with rfl | h
    · revert hc; decide
    · have := decDigits_digit _ c h; omega
  · have := decDigits_digit _ c h; omega
theorem itoa_ne (n : Int) : Lib.itoa n ≠ [] := by
  unfold Lib.itoa; split
  · simp
  · exact decDigits_ne _
theorem cut_list (l : List Int) (hl : l ≠ []) : cutL 44 (Lib.join (l.map Lib.itoa) [44]) = l.map Lib.itoa := by
  rw [join_joinL]
  exact cutL_joinL 44 _ (by simpa using hl) (fun w hw => by obtain ⟨n, _, rfl⟩ := List.mem_map.1 hw; exact itoa_no (by decide) n)
/-- A crew is read as it was written. -/
theorem read_text (c : Nat) (hc : c < 65536) : readF (textF c) = some c := by
  have hcb : crewB (c : Int) = true := by simp only [crewB, decide_eq_true_eq]; omega
  rw [textF, if_pos hcb]
  by_cases h0 : c = 0
  · subst h0; rfl
  · rw [if_neg (by omega)]
    have hne : listTo c 16 ≠ [] := fun e => h0 (by have := crewOf_list16 c hc; rw [e] at this; exact this.symm)
    have hcut := cut_list _ hne
    have hs : Lib.join ((listTo c 16).map Lib.itoa) [44] ≠ [45] := fun e => by
      rw [e] at hcut
      have h1 : cutL 44 [45] = [[45]] := rfl
      rw [h1] at hcut
      have hm : ([45] : List UInt8) ∈ (listTo c 16).map Lib.itoa := by rw [← hcut]; simp
      obtain ⟨n, hn, hi⟩ := List.mem_map.1 hm
      have := (listTo_mem c 16 (Nat.le_refl _) n hn).2.1
      unfold Lib.itoa at hi
      rw [if_neg (by omega)] at hi
      have := decDigits_digit n.toNat 45 (by rw [hi]; simp)
      exact absurd this.1 (by decide)
    obtain ⟨last, _, _, h3⟩ := read_list c hc 16 (Nat.le_refl _)
    rw [readF, if_neg hs, hcut, h3, Option.map_some, Nat.mod_eq_of_lt (by simpa using hc)]
theorem and_lt {a b : Nat} (h : a < 65536) : a &&& b < 65536 := Nat.lt_of_le_of_lt Nat.and_le_left h
theorem lessN_lt {a b : Nat} (h : a < 65536) : lessN a b < 65536 := Nat.xor_lt_two_pow (n := 16) h (and_lt h)
end Go.Proofs.YtgghnncgeogemaaGreatDoor
namespace Go.Proofs.YtgghnncgeogemaaGreatDoor
open Go.RowKit

theorem or_has {c k : Nat} (h : c.testBit k = true) : c ||| 2 ^ k = c := by
  apply Nat.eq_of_testBit_eq
  intro i
  rw [Nat.testBit_or, Nat.testBit_two_pow]
  by_cases e : k = i
  · subst e; simp [h]
  · simp [e]
theorem or_new {c k : Nat} (h : c.testBit k = false) : c ||| 2 ^ k = c + 2 ^ k := by
  have hr : c % 2 ^ (k + 1) = c % 2 ^ k := by rw [mod_two_step, h]; simp
  have hp := Nat.two_pow_pos k
  have hlt : c % 2 ^ k < 2 ^ k := Nat.mod_lt _ hp
  have hc : c = 2 ^ (k + 1) * (c / 2 ^ (k + 1)) + c % 2 ^ k := by rw [← hr]; exact (Nat.div_add_mod _ _).symm
  generalize c / 2 ^ (k + 1) = q at hc
  generalize c % 2 ^ k = r at *
  have e1 := Nat.two_pow_add_eq_or_of_lt (i := k + 1) (b := r) (by rw [Nat.pow_succ]; omega) q
  have e2 := Nat.two_pow_add_eq_or_of_lt (i := k + 1) (b := 2 ^ k + r) (by rw [Nat.pow_succ]; omega) q
  have e3 := Nat.two_pow_add_eq_or_of_lt (i := k) (b := r) hlt 1
  rw [Nat.mul_one] at e3
  rw [hc, e1, Nat.or_assoc, Nat.or_comm r, ← e3, ← e2, ← e1]
  omega
theorem lessN_bit (a b i : Nat) : (lessN a b).testBit i = (a.testBit i && !b.testBit i) := by
  rw [lessN, Nat.testBit_xor, Nat.testBit_and]
  cases a.testBit i <;> cases b.testBit i <;> rfl
theorem less_or (c b : Nat) : lessN (c ||| b) b = lessN c b := by
  apply Nat.eq_of_testBit_eq
  intro i
  rw [lessN_bit, lessN_bit, Nat.testBit_or]
  cases c.testBit i <;> cases b.testBit i <;> rfl
theorem less_has {c k : Nat} (h : c.testBit k = true) : lessN c (2 ^ k) + 2 ^ k = c := by
  have h1 : (lessN c (2 ^ k)).testBit k = false := by rw [lessN_bit, Nat.testBit_two_pow]; simp
  rw [← or_new h1]
  apply Nat.eq_of_testBit_eq
  intro i
  rw [Nat.testBit_or, lessN_bit, Nat.testBit_two_pow]
  by_cases e : k = i
  · subst e; simp [h]
  · simp [e]
theorem less_new {c k : Nat} (h : c.testBit k = false) : lessN c (2 ^ k) = c := by
  apply Nat.eq_of_testBit_eq
  intro i
  rw [lessN_bit, Nat.testBit_two_pow]
  by_cases e : k = i
  · subst e; simp [h]
  · simp [e]
end Go.Proofs.YtgghnncgeogemaaGreatDoor
