/- errors.Is at package api's errors: its contracts (after the guide's worked text). -/
import Derived.Test.YtlpgafpmhihneaaDoorErrs
namespace Go.Proofs.YtlpgafpmhihneaaDoor
open Go.RowKit Go.Extern.Stop Go.Stop Go.Extern

/-! ### errors.Is -/
/-- (rtype).Comparable, as the model has it. -/
def cmpF : Array Value → Sem Value := Extern.ReflectliteType.method fun t => do Rtype.noPackHeld "Comparable" t; pure (.bool (← typeInfo t).comparable)
theorem eComparable (w : World) : (cmpF #[.agg #[.pointer (some ⟨20, 202, none⟩)]]).run Tryd.prog w = .ok (.bool true) w := by kernel_rfl
theorem eMethodComparable (v : Value) (w : World) : (Go.method 341 164 v "Comparable").run Tryd.prog w = .ok (193, v) w := by kernel_rfl
theorem eIsComp : (Tryd.prog.info? 202).map (·.comparable) = some true := by kernel_rfl
theorem eIsSize : (Tryd.prog.info? 204).map (·.size) = some 1 := by kernel_rfl

/-- errors.Is(x, x), x a pointer to an errors.errorString. -/
theorem is_same (a : Addr) (w : World) :
    Calls Tryd.prog 73 #[.iface 202 (.pointer (some a)), .iface 202 (.pointer (some a))] w fun e w' => e = .returned (.bool true) ∧ w' = w := by
  obtain ⟨i, hi, hcmp⟩ := Option.map_eq_some_iff.1 eIsComp
  obtain ⟨j, hj, hjs⟩ := Option.map_eq_some_iff.1 eIsSize
  have h8 := @run_callFunc_extern Tryd.prog 97 _ Extern.ReflectliteType.typeOf Tryd.func97 (by kernel_rfl) (by kernel_rfl) (by kernel_rfl) (by kernel_rfl)
  have h32 := @run_callFunc_extern Tryd.prog 193 _ cmpF Tryd.func193 (by kernel_rfl) (by kernel_rfl) (by kernel_rfl) (by kernel_rfl)
  have tT := eTypeOfS
  have cT := eComparable
  have mR := eMethodComparable
  have heq := run_eql_iface_ptr_same (P := Tryd.prog) w a Tryd.underlying25 Tryd.underlying202 hi hcmp hj
  go_enter Tryd.func73, Tryd.ntmps73
  go_wp2
  refine wp_loop_rounds 1 ?_
  rw [rounds_succ]
  go_wp2
  go_ret
  exact ⟨rfl, rfl⟩

/-- errors.Is(x, y), two different pointers to errors.errorString: false. -/
theorem is_other (a b : Addr) (ca cb : Array Value) (ta tb : TypeId) (w : World) (hne : a ≠ b) (ha : w.heap[a.block]? = some (.cells ca ta (0, 0))) (hb : w.heap[b.block]? = some (.cells cb tb (0, 0))) :
    Calls Tryd.prog 73 #[.iface 202 (.pointer (some a)), .iface 202 (.pointer (some b))] w fun e w' => e = .returned (.bool false) ∧ w' = w := by
  obtain ⟨i, hi, hcmp⟩ := Option.map_eq_some_iff.1 eIsComp
  obtain ⟨j, hj, hjs⟩ := Option.map_eq_some_iff.1 eIsSize
  have h8 := @run_callFunc_extern Tryd.prog 97 _ Extern.ReflectliteType.typeOf Tryd.func97 (by kernel_rfl) (by kernel_rfl) (by kernel_rfl) (by kernel_rfl)
  have h32 := @run_callFunc_extern Tryd.prog 193 _ cmpF Tryd.func193 (by kernel_rfl) (by kernel_rfl) (by kernel_rfl) (by kernel_rfl)
  have tT := eTypeOfS
  have cT := eComparable
  have mR := eMethodComparable
  have nE := eNoIsS
  have uE := eNoUnwrapS
  have vE := eNoUnwrapsS
  have heq := run_eql_iface_ptr_other (P := Tryd.prog) w Tryd.underlying25 Tryd.underlying202 hi hcmp hj (by rw [hjs]; decide) hne ha hb
  go_enter Tryd.func73, Tryd.ntmps73
  go_wp2
  refine wp_loop_rounds 1 ?_
  rw [rounds_succ]
  go_wp2
  go_ret
  exact ⟨rfl, rfl⟩

/-- errors.Is(f, x), f an api.Fault that holds x itself. -/
theorem is_flt_same (pb po : Nat) (b : Addr) (w : World) (h1 : w.cell? ⟨pb, po + 1, none⟩ = some (.iface 202 (.pointer (some b)))) :
    Calls Tryd.prog 73 #[.iface 83 (.pointer (some ⟨pb, po, none⟩)), .iface 202 (.pointer (some b))] w fun e w' => e = .returned (.bool true) ∧ w' = w := by
  obtain ⟨i, hi, hcmp⟩ := Option.map_eq_some_iff.1 eIsComp
  obtain ⟨j, hj, hjs⟩ := Option.map_eq_some_iff.1 eIsSize
  have h8 := @run_callFunc_extern Tryd.prog 97 _ Extern.ReflectliteType.typeOf Tryd.func97 (by kernel_rfl) (by kernel_rfl) (by kernel_rfl) (by kernel_rfl)
  have h32 := @run_callFunc_extern Tryd.prog 193 _ cmpF Tryd.func193 (by kernel_rfl) (by kernel_rfl) (by kernel_rfl) (by kernel_rfl)
  have tT := eTypeOfS
  have cT := eComparable
  have mR := eMethodComparable
  have nE := eNoIsS
  have uE := eNoUnwrapS
  have vE := eNoUnwrapsS
  have nW := eNoIsF
  have uW := eHasUnwrapF
  have mU := eMethodUnwrap
  have heq := run_eql_iface_ptr_same (P := Tryd.prog) w b Tryd.underlying25 Tryd.underlying202 hi hcmp hj
  have hty := run_eql_iface_types (P := Tryd.prog) 83 202 (.pointer (some ⟨pb, po, none⟩)) (.pointer (some b)) Tryd.underlying25 (by decide) w
  go_enter Tryd.func73, Tryd.ntmps73
  go_wp2
  refine wp_loop_rounds 2 ?_
  rw [rounds_succ]
  go_wp2
  rw [rounds_succ]
  go_wp2
  go_ret
  exact ⟨rfl, rfl⟩

/-- errors.Is(f, x), f an api.Fault that holds another error of errors.New's make. -/
theorem is_flt_other (pb po : Nat) (b a : Addr) (ca cb : Array Value) (ta tb : TypeId) (w : World) (h1 : w.cell? ⟨pb, po + 1, none⟩ = some (.iface 202 (.pointer (some a)))) (hne : a ≠ b) (ha : w.heap[a.block]? = some (.cells ca ta (0, 0))) (hb : w.heap[b.block]? = some (.cells cb tb (0, 0))) :
    Calls Tryd.prog 73 #[.iface 83 (.pointer (some ⟨pb, po, none⟩)), .iface 202 (.pointer (some b))] w fun e w' => e = .returned (.bool false) ∧ w' = w := by
  obtain ⟨i, hi, hcmp⟩ := Option.map_eq_some_iff.1 eIsComp
  obtain ⟨j, hj, hjs⟩ := Option.map_eq_some_iff.1 eIsSize
  have h8 := @run_callFunc_extern Tryd.prog 97 _ Extern.ReflectliteType.typeOf Tryd.func97 (by kernel_rfl) (by kernel_rfl) (by kernel_rfl) (by kernel_rfl)
  have h32 := @run_callFunc_extern Tryd.prog 193 _ cmpF Tryd.func193 (by kernel_rfl) (by kernel_rfl) (by kernel_rfl) (by kernel_rfl)
  have tT := eTypeOfS
  have cT := eComparable
  have mR := eMethodComparable
  have nE := eNoIsS
  have uE := eNoUnwrapS
  have vE := eNoUnwrapsS
  have nW := eNoIsF
  have uW := eHasUnwrapF
  have mU := eMethodUnwrap
  have heq := run_eql_iface_ptr_other (P := Tryd.prog) w Tryd.underlying25 Tryd.underlying202 hi hcmp hj (by rw [hjs]; decide) hne ha hb
  have hty := run_eql_iface_types (P := Tryd.prog) 83 202 (.pointer (some ⟨pb, po, none⟩)) (.pointer (some b)) Tryd.underlying25 (by decide) w
  go_enter Tryd.func73, Tryd.ntmps73
  go_wp2
  refine wp_loop_rounds 2 ?_
  rw [rounds_succ]
  go_wp2
  rw [rounds_succ]
  go_wp2
  go_ret
  exact ⟨rfl, rfl⟩
end Go.Proofs.YtlpgafpmhihneaaDoor
