/- crew: two, Both, Either, Less. -/
import Derived.Test.YtlpgafpmhihneaaDoorCrew
namespace Go.Proofs.YtlpgafpmhihneaaDoor
open Go.RowKit

def twoE (a b : Int) : Nat := if crewB a && crewB b then 0 else 2
def lessN (a b : Nat) : Nat := a ^^^ (a &&& b)
def bothF (a b : Int) : Nat := if crewB a && crewB b then a.toNat &&& b.toNat else 0
def eitherF (a b : Int) : Nat := if crewB a && crewB b then a.toNat ||| b.toNat else 0
def lessF (a b : Int) : Nat := if crewB a && crewB b then lessN a.toNat b.toNat else 0

theorem andNot_nat (a b : Nat) (ha : a < 9223372036854775808) (hb : b < 9223372036854775808) : bits .andNot .i64 (a : Int) (b : Int) = ((lessN a b : Nat) : Int) := by
  have hx : lessN a b < 2 ^ 63 := Nat.xor_lt_two_pow (by omega) (Nat.and_lt_two_pow _ (by omega))
  have e : (BitVec.ofInt 64 (a : Int) &&& ~~~ BitVec.ofInt 64 (b : Int)).toNat = lessN a b := by
    apply Nat.eq_of_testBit_eq
    intro i
    rw [lessN, Nat.testBit_xor, Nat.testBit_and, BitVec.testBit_toNat, BitVec.getLsbD_and, BitVec.getLsbD_not, ← BitVec.testBit_toNat, ← BitVec.testBit_toNat, ofInt_nat a ha, ofInt_nat b hb]
    by_cases hi : i < 64
    · cases a.testBit i <;> cases b.testBit i <;> simp [hi]
    · have : a.testBit i = false := Nat.testBit_lt_two_pow (Nat.lt_of_lt_of_le (show a < 2 ^ 64 by omega) (Nat.pow_le_pow_right (by omega) (by omega)))
      simp [this]
  show IntKind.i64.wrap ((BitVec.ofInt 64 (a : Int) &&& ~~~ BitVec.ofInt 64 (b : Int)).toNat : Int) = _
  rw [e, IntKind.wrap_i64]
  omega

theorem two_any (ea : Nat → Addr) (a b : Int) (w : World) (hg : Glob w ea [2]) :
    Calls Tryd.prog 49 #[.int .i64 a, .int .i64 b] w fun e w' => e = .returned (errV ea (twoE a b)) ∧ w = w' := by
  have KA := Lib.hid (crewCheck_any ea a w hg)
  have KB := Lib.hid (crewCheck_any ea b w hg)
  clear hg
  cases ha : crewB a
  · have he : errV ea (crewE a) = .iface 202 (.pointer (some (ea 2))) := by rw [crewE, ha]; exact errV_pos ea (by decide)
    have HR : Hid (errV ea (twoE a b) = .iface 202 (.pointer (some (ea 2)))) := by unfold Hid; rw [twoE, ha, Bool.false_and, if_neg (by decide)]; exact errV_pos ea (by decide)
    rw [he] at KA
    clear he ha
    go_enter Tryd.func49, Tryd.ntmps49
    go_wp2_with (go_at_call 19; refine KA.out.mono ?_; rintro e w' ⟨rfl, rfl⟩)
    go_ret
    exact ⟨by rw [HR.out]; rfl, rfl⟩
  · have he : errV ea (crewE a) = .nilIface := by rw [crewE, ha]; exact errV_zero ea
    have HR : Hid (twoE a b = crewE b) := by unfold Hid; rw [twoE, ha, crewE]; rfl
    rw [he] at KA
    clear he ha
    go_enter Tryd.func49, Tryd.ntmps49
    go_wp2_with fail
    refine KA.out.mono ?_
    rintro e w' ⟨rfl, rfl⟩
    go_wp2_with fail
    refine KB.out.mono ?_
    rintro e w' ⟨rfl, rfl⟩
    go_wp2
    go_ret
    exact ⟨by rw [HR.out]; rfl, rfl⟩
theorem crew_nat {a : Int} (h : crewB a = true) : ∃ k : Nat, a = k ∧ k < 65536 := ⟨a.toNat, by simp [crewB] at h; omega, by simp [crewB] at h; omega⟩
theorem both_any (ea : Nat → Addr) (a b : Int) (w : World) (hg : Glob w ea [2]) :
    Calls Tryd.prog 20 #[.int .i64 a, .int .i64 b] w fun e w' => e = .returned (.tuple #[.int .i64 (bothF a b), errV ea (twoE a b)]) ∧ w = w' := by
  have K := Lib.hid (two_any ea a b w hg)
  clear hg
  cases h : crewB a && crewB b
  · have he : errV ea (twoE a b) = .iface 202 (.pointer (some (ea 2))) := by rw [twoE, h]; exact errV_pos ea (by decide)
    have HR : Hid (bothF a b = 0) := by unfold Hid; rw [bothF, h]; rfl
    have HE := Lib.hid he
    rw [he] at K
    clear he h
    go_enter Tryd.func20, Tryd.ntmps20
    go_wp2_with (go_at_call 49; refine K.out.mono ?_; rintro e w' ⟨rfl, rfl⟩)
    go_ret2
    exact ⟨by rw [HR.out, HE.out]; rfl, rfl⟩
  · have he : errV ea (twoE a b) = .nilIface := by rw [twoE, h]; exact errV_zero ea
    have h' := h
    rw [Bool.and_eq_true] at h'
    obtain ⟨x, rfl, hx⟩ := crew_nat h'.1
    obtain ⟨y, rfl, hy⟩ := crew_nat h'.2
    have HR : Hid (bothF x y = x &&& y) := by unfold Hid; rw [bothF, h, if_pos rfl, Int.toNat_natCast, Int.toNat_natCast]
    have hB := and_nat x y (by omega) (by omega)
    have HE := Lib.hid he
    rw [he] at K
    clear he h h'
    go_enter Tryd.func20, Tryd.ntmps20
    go_wp2_with (go_at_call 49; refine K.out.mono ?_; rintro e w' ⟨rfl, rfl⟩)
    go_ret2
    exact ⟨by rw [HR.out, HE.out]; rfl, rfl⟩
theorem either_any (ea : Nat → Addr) (a b : Int) (w : World) (hg : Glob w ea [2]) :
    Calls Tryd.prog 22 #[.int .i64 a, .int .i64 b] w fun e w' => e = .returned (.tuple #[.int .i64 (eitherF a b), errV ea (twoE a b)]) ∧ w = w' := by
  have K := Lib.hid (two_any ea a b w hg)
  clear hg
  cases h : crewB a && crewB b
  · have he : errV ea (twoE a b) = .iface 202 (.pointer (some (ea 2))) := by rw [twoE, h]; exact errV_pos ea (by decide)
    have HR : Hid (eitherF a b = 0) := by unfold Hid; rw [eitherF, h]; rfl
    have HE := Lib.hid he
    rw [he] at K
    clear he h
    go_enter Tryd.func22, Tryd.ntmps22
    go_wp2_with (go_at_call 49; refine K.out.mono ?_; rintro e w' ⟨rfl, rfl⟩)
    go_ret2
    exact ⟨by rw [HR.out, HE.out]; rfl, rfl⟩
  · have he : errV ea (twoE a b) = .nilIface := by rw [twoE, h]; exact errV_zero ea
    have h' := h
    rw [Bool.and_eq_true] at h'
    obtain ⟨x, rfl, hx⟩ := crew_nat h'.1
    obtain ⟨y, rfl, hy⟩ := crew_nat h'.2
    have HR : Hid (eitherF x y = x ||| y) := by unfold Hid; rw [eitherF, h, if_pos rfl, Int.toNat_natCast, Int.toNat_natCast]
    have hB := or_nat x y (by omega) (by omega)
    have HE := Lib.hid he
    rw [he] at K
    clear he h h'
    go_enter Tryd.func22, Tryd.ntmps22
    go_wp2_with (go_at_call 49; refine K.out.mono ?_; rintro e w' ⟨rfl, rfl⟩)
    go_ret2
    exact ⟨by rw [HR.out, HE.out]; rfl, rfl⟩
theorem less_any (ea : Nat → Addr) (a b : Int) (w : World) (hg : Glob w ea [2]) :
    Calls Tryd.prog 21 #[.int .i64 a, .int .i64 b] w fun e w' => e = .returned (.tuple #[.int .i64 (lessF a b), errV ea (twoE a b)]) ∧ w = w' := by
  have K := Lib.hid (two_any ea a b w hg)
  clear hg
  cases h : crewB a && crewB b
  · have he : errV ea (twoE a b) = .iface 202 (.pointer (some (ea 2))) := by rw [twoE, h]; exact errV_pos ea (by decide)
    have HR : Hid (lessF a b = 0) := by unfold Hid; rw [lessF, h]; rfl
    have HE := Lib.hid he
    rw [he] at K
    clear he h
    go_enter Tryd.func21, Tryd.ntmps21
    go_wp2_with (go_at_call 49; refine K.out.mono ?_; rintro e w' ⟨rfl, rfl⟩)
    go_ret2
    exact ⟨by rw [HR.out, HE.out]; rfl, rfl⟩
  · have he : errV ea (twoE a b) = .nilIface := by rw [twoE, h]; exact errV_zero ea
    have h' := h
    rw [Bool.and_eq_true] at h'
    obtain ⟨x, rfl, hx⟩ := crew_nat h'.1
    obtain ⟨y, rfl, hy⟩ := crew_nat h'.2
    have HR : Hid (lessF x y = lessN x y) := by unfold Hid; rw [lessF, h, if_pos rfl, Int.toNat_natCast, Int.toNat_natCast]
    have hB := andNot_nat x y (by omega) (by omega)
    have HE := Lib.hid he
    rw [he] at K
    clear he h h'
    go_enter Tryd.func21, Tryd.ntmps21
    go_wp2_with (go_at_call 49; refine K.out.mono ?_; rintro e w' ⟨rfl, rfl⟩)
    go_ret2
    exact ⟨by rw [HR.out, HE.out]; rfl, rfl⟩
end Go.Proofs.YtlpgafpmhihneaaDoor
