/- the reference's Signed and HistoryText. -/
import Derived.Test.YtgghnncgeogemaaGreatDoorRefText
import Derived.Test.YtgghnncgeogemaaGreatDoorFoldPlain
import Derived.Laws.IdiomStrings
namespace Go.Proofs.YtgghnncgeogemaaGreatDoor
open Go.RowKit

theorem signed_any (n : Int) (w : World) (h0 : -9223372036854775807 ≤ n ∧ n ≤ 9223372036854775807) :
    Calls Tryz.prog 89 #[.int .i64 n] w fun e w' => e = .returned (.string ⟨(Lib.itoa n).toArray⟩) ∧ Below w.heap.size w w' := by
  by_cases hn : n < 0
  · obtain ⟨m, rfl⟩ : ∃ m : Nat, n = -(m : Int) := ⟨n.natAbs, by omega⟩
    have HD := Lib.hid (Lib.itoa_neg m (by omega))
    have HL := (digits_le m 19 (by omega)).2 (by rw [ten19]; omega)
    have K := Lib.hid (decimal_any (m : Int) w (by omega))
    rw [Lib.itoa_nonneg] at K
    generalize Lib.decDigits m = dm at *
    have c1 := ba_append [45] dm
    go_enter Tryz.func89, Tryz.ntmps89
    go_wp2_with fail
    refine K.out.mono ?_
    rintro e w1 ⟨rfl, hb1⟩
    go_wp2
    go_ret
    exact ⟨by rw [HD.out]; rfl, hb1⟩
  · have K := Lib.hid (decimal_any n w (by omega))
    generalize Lib.itoa n = tn at *
    clear h0
    go_enter Tryz.func89, Tryz.ntmps89
    go_wp2_with fail
    refine K.out.mono ?_
    rintro e w1 ⟨rfl, hb1⟩
    go_wp2
    go_ret
    exact ⟨rfl, hb1⟩

theorem run_adds (a b : List UInt8) (h : a.length + b.length ≤ 9223372036854775807) (W : World) : (Op.stringOp .add ⟨a.toArray⟩ ⟨b.toArray⟩).run Tryz.prog W = .ok (.string ⟨(a ++ b).toArray⟩) W := by
  rw [run_string_add_sum _ _ _ (by simp [ByteArray.size]; omega)]
  exact congrArg (fun z => Result.ok (Value.string z) W) (ba_append a b)

end Go.Proofs.YtgghnncgeogemaaGreatDoor
