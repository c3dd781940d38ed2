/- crew: Check, bit, Has, Of. -/
import Derived.Test.YtmikeblbfmfimaaDoorNode
namespace Go.Proofs.YtmikeblbfmfimaaDoor
open Go.RowKit

/-- crew.Check's error. -/
def crewE (c : Int) : Nat := if crewB c then 0 else 2
theorem bit_any (n : Int) (w : World) (h : nodeB n = true) : Calls Tryd.prog 88 #[.int .i64 n] w fun e w' => e = .returned (.int .i64 (bitOf n)) ∧ w = w' := by
  simp only [nodeB, decide_eq_true_eq] at h
  have hc : n = 1 ∨ n = 2 ∨ n = 3 ∨ n = 4 ∨ n = 5 ∨ n = 6 ∨ n = 7 ∨ n = 8 ∨ n = 9 ∨ n = 10 ∨ n = 11 ∨ n = 12 ∨ n = 13 ∨ n = 14 ∨ n = 15 ∨ n = 16 := by omega
  rcases hc with rfl | rfl | rfl | rfl | rfl | rfl | rfl | rfl | rfl | rfl | rfl | rfl | rfl | rfl | rfl | rfl
  all_goals
    clear h
    go_enter Tryd.func88, Tryd.ntmps88
    go_wp2
    go_ret
    exact ⟨ret_int (by decide), rfl⟩

/-- Of nodes. -/
theorem of_ok (a : Option Addr) (n cap : Nat) (l : List Int) (w : World) (hn : l.length = n) (hr : RowAt w a (encInts l)) (hc : n ≤ 4611686018427387904) (hall : ∀ x ∈ l, nodeB x = true) :
    Calls Tryd.prog 71 #[.slice a n cap] w fun e w' => e = .returned (.tuple #[.int .i64 (crewOf l), .nilIface]) ∧ w = w' := by
  have HA := Lib.hid hall
  clear hall
  go_enter Tryd.func71, Tryd.ntmps71
  go_wp2
  go_loop [4, 9] (fun c i => ∃ k : Nat, k ≤ n ∧ i = .int .i64 k ∧ c = .int .i64 (crewOf (l.take k))) (fun _ i => n - (intOf i).toNat)
  case atStart => exact ⟨0, Nat.zero_le _, rfl, rfl⟩
  case round =>
    obtain ⟨k, hk, rfl, rfl⟩ := hrel
    by_cases hlt : k < n
    · obtain ⟨b, off, rfl, hbl, c0⟩ := hr.int k (by omega)
      have hkt : k < l.length := by omega
      have hs : crewOf (l.take (k + 1)) = crewOf (l.take k) ||| bitOf l[k] := by rw [List.take_succ_eq_append_getElem hkt, crewOf, List.foldl_append]; rfl
      have hnd := HA.out _ (List.getElem_mem hkt)
      have hlt1 : crewOf (l.take k) < 65536 := crewOf_lt (fun x hx => HA.out x (List.mem_of_mem_take hx))
      have hlt2 := bitOf_lt hnd
      generalize l[k] = x at *
      have hO : bits .or .i64 (crewOf (l.take k) : Int) (bitOf x : Int) = ((crewOf (l.take k) ||| bitOf x : Nat) : Int) := or_nat _ _ (by omega) (by omega)
      have HN := Lib.hid hnd
      have HS := Lib.hid hs
      clear hnd hs
      go_wp2_with (first
        | (go_at_call 76; refine (node_any _ _).mono ?_; rintro e w' ⟨rfl, rfl⟩; rw [HN.out])
        | (go_at_call 88; refine (bit_any _ _ HN.out).mono ?_; rintro e w' ⟨rfl, rfl⟩))
      go_round
      case rel => exact ⟨k + 1, by omega, by go_num, by rw [HS.out]⟩
      case measure => simp [intOf]; omega
    · have e1 : l.take k = l := List.take_of_length_le (by omega)
      rw [e1]
      clear e1
      go_wp2
      go_ret2
      exact ⟨rfl, rfl⟩
end Go.Proofs.YtmikeblbfmfimaaDoor
