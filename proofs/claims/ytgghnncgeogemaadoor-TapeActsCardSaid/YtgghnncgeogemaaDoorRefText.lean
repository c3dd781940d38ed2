/- the reference's Byte, below, Decimal, Signed. -/
import Derived.Laws.IdiomStrings
import Derived.Test.YtgghnncgeogemaaDoorTxt
namespace Go.Proofs.YtgghnncgeogemaaDoor
open Go.RowKit

theorem ten19 : (10 : Nat) ^ 19 = 10000000000000000000 := by decide
set_option maxRecDepth 100000 in
theorem byte_any (n : Nat) (w : World) (hn : n < 256) :
    Calls Tryd.prog 52 #[.int .i64 n] w fun e w' => e = .returned (.string ⟨#[UInt8.ofNat n]⟩) ∧ Below w.heap.size w w' := by
  have hx : (UInt8.ofNat n).toNat = n := by rw [UInt8.toNat_ofNat']; exact Nat.mod_eq_of_lt hn
  have hrun := run_convert_bytes_back (P := Tryd.prog) (w.alloc (.cells #[.int .u8 n] 5)) 49 9 5 ⟨w.heap.size, 0, none⟩ 1 [UInt8.ofNat n] Tryd.underlying49 Tryd.underlying5 Tryd.underlying9 (fun j hj => by
    obtain rfl : j = 0 := by simpa using hj
    simp [hx, Addr.add])
  clear hx
  simp only [List.length_cons, List.length_nil, Nat.zero_add] at hrun
  go_enter Tryd.func52, Tryd.ntmps52
  go_wp2
  go_ret
  exact ⟨rfl, (Below.refl _ _).alloc (Nat.le_refl _) _⟩

set_option maxRecDepth 100000 in
theorem below_any : ∀ (m : Nat) (w : World), m ≤ 9223372036854775808 → Calls Tryd.prog 42 #[.int .i64 (-(m : Int))] w fun e w' => e = .returned (.string ⟨(Lib.decDigits m).toArray⟩) ∧ Below w.heap.size w w' := by
  intro m
  induction m using Nat.strongRecOn with
  | _ m ih =>
    intro w hm
    by_cases h : m < 10
    · have HD : Hid (Lib.decDigits m = [UInt8.ofNat (48 + m)]) := decDigits_small h
      have K := Lib.hid (byte_any (48 + m) w (by omega))
      rw [show ((48 + m : Nat) : Int) = 48 + (m : Int) by omega] at K
      have h1 : (-10 : Int) < -(m : Int) := by omega
      generalize UInt8.ofNat (48 + m) = ch at *
      clear ih hm
      go_enter Tryd.func42, Tryd.ntmps42
      go_wp2_with fail
      refine K.out.mono ?_
      rintro e w1 ⟨rfl, hb1⟩
      go_wp2
      go_ret
      exact ⟨by rw [HD.out]; rfl, hb1⟩
    · obtain ⟨q, r, hq, hr, hqm⟩ : ∃ q r : Nat, m = 10 * q + r ∧ r < 10 ∧ q < m := ⟨m / 10, m % 10, by omega, by omega, by omega⟩
      have HD : Hid (Lib.decDigits m = Lib.decDigits q ++ [UInt8.ofNat (48 + r)]) := by unfold Hid; rw [decDigits_big h, show m / 10 = q by omega, show m % 10 = r by omega]
      have HL : Hid ((Lib.decDigits q).length ≤ 19) := (digits_le q 19 (by omega)).2 (by rw [ten19]; omega)
      have KI := Lib.hid (ih q hqm w (by omega))
      have KB := Lib.hid (fun (W : World) => byte_any (48 + r) W (by omega))
      rw [show ((48 + r : Nat) : Int) = 48 + (r : Int) by omega] at KB
      have e2 : (-(m : Int)).tdiv 10 = -(q : Int) := by rw [Int.neg_tdiv, hq]; congr 1; rw [Int.tdiv_eq_ediv_of_nonneg (by omega)]; omega
      have e3 : (-(m : Int)).tmod 10 = -(r : Int) := by rw [Int.neg_tmod, hq]; congr 1; rw [Int.tmod_eq_emod_of_nonneg (by omega)]; omega
      have h1 : ¬ (-10 : Int) < -(m : Int) := by omega
      have h1' : decide ((-10 : Int) < -(m : Int)) = false := by simpa using h1
      have b0 : -9223372036854775808 ≤ -(m : Int) := by omega
      have b1 : -(m : Int) ≤ 0 := by omega
      clear ih hm hq h
      generalize Lib.decDigits q = dq at *
      generalize UInt8.ofNat (48 + r) = ch at *
      have c1 := ba_append dq [ch]
      have HLL := HL.out
      go_enter Tryd.func42, Tryd.ntmps42
      go_wp2_with fail
      refine KI.out.mono ?_
      rintro e w1 ⟨rfl, hb1⟩
      go_wp2_with fail
      refine (KB.out _).mono ?_
      rintro e w2 ⟨rfl, hb2⟩
      go_wp2
      go_ret
      exact ⟨by rw [HD.out]; rfl, hb1.trans (hb2.mono hb1.size)⟩
theorem decimal_any (n : Int) (w : World) (h0 : -9223372036854775808 ≤ n ∧ n ≤ 9223372036854775807) :
    Calls Tryd.prog 31 #[.int .i64 n] w fun e w' => e = .returned (.string ⟨(Lib.itoa n).toArray⟩) ∧ Below w.heap.size w w' := by
  by_cases hn : n < 0
  · obtain ⟨m, rfl⟩ : ∃ m : Nat, n = -(m : Int) := ⟨n.natAbs, by omega⟩
    have HD := Lib.hid (Lib.itoa_neg m (by omega))
    have HL := (digits_le m 19 (by omega)).2 (by rw [ten19]; omega)
    have K := Lib.hid (below_any m w (by omega))
    generalize Lib.decDigits m = dm at *
    have c1 := ba_append [45] dm
    clear h0
    go_enter Tryd.func31, Tryd.ntmps31
    go_wp2_with fail
    refine K.out.mono ?_
    rintro e w1 ⟨rfl, hb1⟩
    go_wp2
    go_ret
    exact ⟨by rw [HD.out]; rfl, hb1⟩
  · obtain ⟨m, rfl⟩ : ∃ m : Nat, n = (m : Int) := ⟨n.toNat, by omega⟩
    have HD := Lib.hid (Lib.itoa_nonneg m)
    have K := Lib.hid (below_any m w (by omega))
    have h1 : (m : Int) ≤ 9223372036854775807 := h0.2
    clear h0
    go_enter Tryd.func31, Tryd.ntmps31
    go_wp2_with fail
    refine K.out.mono ?_
    rintro e w1 ⟨rfl, hb1⟩
    go_wp2
    go_ret
    exact ⟨by rw [HD.out]; rfl, hb1⟩
end Go.Proofs.YtgghnncgeogemaaDoor
