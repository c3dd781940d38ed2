/-
  NARROWER THAN 'FOR EVERY INPUT', by the rows' own cells (each row's printed sentence says how): Names: laid · CliqueTells: laid · PlanTells: laid · GuardTells: laid · DeltaTells: laid · BusTells: laid · ModeActs: laid.
  DERIVED. THE GIVEN ROWS OF THIS SEAT. 7 by the template 'for every input the law returns true; each argument reads behind the call as it read before'; 0 by the template 'total and deterministic' (their statements: YtmikeblbfmfimaaDoorTotals.lean).
  GIVEN WITH THE SEED: the statements are not yours to turn. If you find one false, say at which input.
  Laid BY PROGRAM, IN A SANDBOX (cutbox-rows.mjs): the forced cells as the released guide's own fill.sh prints them over the translation 65df4c999abd984c… (all of the seat's roots in one cut). By AI agents, Wed Nov 11 2026. No macro, syntax, notation, axiom, sorry.
-/
import Derived.Test.YtmikeblbfmfimaaDoorChecked
import GoSem.Claim
import GoSem.ClaimJoined
import GoSem.ClaimMapViews
import Derived.JoinedTies
import Derived.KernelRfl
namespace Go.Proofs.YtmikeblbfmfimaaDoor
/- THE CELL 'sum', in the pinned program and in every row, IS THE sha256 OF THE DUMP (.gsa) THAT YtmikeblbfmfimaaDoorProg.lean LOADS. Nothing in Lean hashes anything: it is a label: what it is worth is what the hold of that sum in a sandbox is worth. -/
noncomputable def Tryd.pinned : Pinned := { name := "ytmikeblbfmfimaadoor", sum := "65df4c999abd984c65776ca074201a70ba7f3b875f83a41fdb13862d925a77a3", checked := Tryd.checked }
namespace Rows
def none {H : Type} : Left H := { results := [], args := [] }

/- WHAT THE LISTED PACKAGE-LEVEL VARIABLES READ AS WHEN THE CALL BEGINS. Each datum BY PROGRAM (the guide's laid-datum.mjs) off the statement by which the dump's own 'gosem.cut.vars' lays the variable. In a bare row this is a premise. The card (YtmikeblbfmfimaaDoorCards.lean) ties it to the program's text. -/
def laid_errors_errorType {H : Type} : DataW H := .iface "internal/reflectlite.rtype" (.agg [.ptr (.lit (.string [101, 114, 114, 111, 114]))])
def laid_bargelock_api_ErrText {H : Type} : DataW H := .iface "*errors.errorString" (.ptr (.agg [.lit (.string [98, 97, 114, 103, 101, 108, 111, 99, 107, 58, 32, 116, 101, 120, 116])]))
def laid_bargelock_api_ErrBound {H : Type} : DataW H := .iface "*errors.errorString" (.ptr (.agg [.lit (.string [98, 97, 114, 103, 101, 108, 111, 99, 107, 58, 32, 98, 111, 117, 110, 100])]))
def laid_bargelock_api_ErrShape {H : Type} : DataW H := .iface "*errors.errorString" (.ptr (.agg [.lit (.string [98, 97, 114, 103, 101, 108, 111, 99, 107, 58, 32, 115, 104, 97, 112, 101])]))
def laid_bargelock_api_ErrNode {H : Type} : DataW H := .iface "*errors.errorString" (.ptr (.agg [.lit (.string [98, 97, 114, 103, 101, 108, 111, 99, 107, 58, 32, 110, 111, 100, 101])]))
def laid_bargelock_api_ErrNone {H : Type} : DataW H := .iface "*errors.errorString" (.ptr (.agg [.lit (.string [98, 97, 114, 103, 101, 108, 111, 99, 107, 58, 32, 110, 111, 110, 101])]))
def laid_bargelock_api_ErrExist {H : Type} : DataW H := .iface "*errors.errorString" (.ptr (.agg [.lit (.string [98, 97, 114, 103, 101, 108, 111, 99, 107, 58, 32, 101, 120, 105, 115, 116])]))
def laid_bargelock_api_ErrFull {H : Type} : DataW H := .iface "*errors.errorString" (.ptr (.agg [.lit (.string [98, 97, 114, 103, 101, 108, 111, 99, 107, 58, 32, 102, 117, 108, 108])]))
def laid_bargelock_api_ErrSum {H : Type} : DataW H := .iface "*errors.errorString" (.ptr (.agg [.lit (.string [98, 97, 114, 103, 101, 108, 111, 99, 107, 58, 32, 115, 117, 109])]))
def laid_bargelock_api_ErrLate {H : Type} : DataW H := .iface "*errors.errorString" (.ptr (.agg [.lit (.string [98, 97, 114, 103, 101, 108, 111, 99, 107, 58, 32, 108, 97, 116, 101])]))
def laid_bargelock_api_ErrGap {H : Type} : DataW H := .iface "*errors.errorString" (.ptr (.agg [.lit (.string [98, 97, 114, 103, 101, 108, 111, 99, 107, 58, 32, 103, 97, 112])]))
def laid_bargelock_api_ErrOff {H : Type} : DataW H := .iface "*errors.errorString" (.ptr (.agg [.lit (.string [98, 97, 114, 103, 101, 108, 111, 99, 107, 58, 32, 111, 102, 102])]))

/-- 'bargelocklaw1.Names': WHATEVER THE INPUT: true; the input reads as it did. -/
def namesSpec : ChangeSpec := { name := "names", fn := fun _ => fun
  | [] => { results := [.lit (.bool true)], args := [] }
  | _ => none }
def namesRow : OpenClaim := { program := "ytmikeblbfmfimaadoor", sum := "65df4c999abd984c65776ca074201a70ba7f3b875f83a41fdb13862d925a77a3", func := "bargelock/bargelocklaw1.Names", spec := "names", inPlace := ["internal/reflectlite.ValueOf", "(internal/reflectlite.Value).Type", "(internal/reflectlite.Value).IsNil", "internal/reflectlite.TypeOf", "(internal/reflectlite.Value).Elem", "(internal/reflectlite.Value).Set"], unfollowed := true, recurses := true, named := ["bargelock/api.ErrText", "bargelock/api.ErrBound", "bargelock/api.ErrShape", "bargelock/api.ErrNode", "bargelock/api.ErrNone", "bargelock/api.ErrExist", "bargelock/api.ErrFull", "bargelock/api.ErrSum", "bargelock/api.ErrLate", "bargelock/api.ErrGap", "bargelock/api.ErrOff", "errors.errorType"], plainKeys := false, apart := false, laid := [("errors.errorType", laid_errors_errorType), ("bargelock/api.ErrText", laid_bargelock_api_ErrText), ("bargelock/api.ErrBound", laid_bargelock_api_ErrBound), ("bargelock/api.ErrShape", laid_bargelock_api_ErrShape), ("bargelock/api.ErrNode", laid_bargelock_api_ErrNode), ("bargelock/api.ErrNone", laid_bargelock_api_ErrNone), ("bargelock/api.ErrExist", laid_bargelock_api_ErrExist), ("bargelock/api.ErrFull", laid_bargelock_api_ErrFull), ("bargelock/api.ErrSum", laid_bargelock_api_ErrSum), ("bargelock/api.ErrLate", laid_bargelock_api_ErrLate), ("bargelock/api.ErrGap", laid_bargelock_api_ErrGap), ("bargelock/api.ErrOff", laid_bargelock_api_ErrOff)] }
def NamesSaid : Prop := namesRow.holds Tryd.pinned (OpenSpec.ofChange namesSpec)

/-- ITS FALSE NEIGHBOUR: 'it returns false'. Refute it at one input. -/
def namesWrong : ChangeSpec := { name := "names", fn := fun _ => fun
  | [] => { results := [.lit (.bool false)], args := [] }
  | _ => none }
def NamesWrongFalsely : Prop := namesRow.holds Tryd.pinned (OpenSpec.ofChange namesWrong)

/-- 'bargelocklaw2.CliqueTells': WHATEVER THE INPUT: true; the input reads as it did. -/
def cliqueTellsSpec : ChangeSpec := { name := "cliqueTells", fn := fun _ => fun
  | [d1, d2] => { results := [.lit (.bool true)], args := [d1, d2] }
  | _ => none }
def cliqueTellsRow : OpenClaim := { program := "ytmikeblbfmfimaadoor", sum := "65df4c999abd984c65776ca074201a70ba7f3b875f83a41fdb13862d925a77a3", func := "bargelock/bargelocklaw2.CliqueTells", spec := "cliqueTells", inPlace := ["internal/reflectlite.ValueOf", "(internal/reflectlite.Value).Type", "(internal/reflectlite.Value).IsNil", "internal/reflectlite.TypeOf", "(internal/reflectlite.Value).Elem", "(internal/reflectlite.Value).Set"], unfollowed := true, recurses := true, named := ["bargelock/api.ErrBound", "bargelock/api.ErrFull", "bargelock/api.ErrGap", "bargelock/api.ErrNode", "bargelock/api.ErrShape", "bargelock/api.ErrText", "bargelock/api.ErrNone", "bargelock/api.ErrExist", "bargelock/api.ErrSum", "bargelock/api.ErrLate", "bargelock/api.ErrOff", "errors.errorType"], plainKeys := false, apart := false, laid := [("errors.errorType", laid_errors_errorType), ("bargelock/api.ErrText", laid_bargelock_api_ErrText), ("bargelock/api.ErrBound", laid_bargelock_api_ErrBound), ("bargelock/api.ErrShape", laid_bargelock_api_ErrShape), ("bargelock/api.ErrNode", laid_bargelock_api_ErrNode), ("bargelock/api.ErrNone", laid_bargelock_api_ErrNone), ("bargelock/api.ErrExist", laid_bargelock_api_ErrExist), ("bargelock/api.ErrFull", laid_bargelock_api_ErrFull), ("bargelock/api.ErrSum", laid_bargelock_api_ErrSum), ("bargelock/api.ErrLate", laid_bargelock_api_ErrLate), ("bargelock/api.ErrGap", laid_bargelock_api_ErrGap), ("bargelock/api.ErrOff", laid_bargelock_api_ErrOff)] }
def CliqueTellsSaid : Prop := cliqueTellsRow.holds Tryd.pinned (OpenSpec.ofChange cliqueTellsSpec)

/-- ITS FALSE NEIGHBOUR: 'it returns false'. Refute it at one input. -/
def cliqueTellsWrong : ChangeSpec := { name := "cliqueTells", fn := fun _ => fun
  | [d1, d2] => { results := [.lit (.bool false)], args := [d1, d2] }
  | _ => none }
def CliqueTellsWrongFalsely : Prop := cliqueTellsRow.holds Tryd.pinned (OpenSpec.ofChange cliqueTellsWrong)

/-- 'bargelocklaw1.PlanTells': WHATEVER THE INPUT: true; the input reads as it did. -/
def planTellsSpec : ChangeSpec := { name := "planTells", fn := fun _ => fun
  | [d1, d2, d3] => { results := [.lit (.bool true)], args := [d1, d2, d3] }
  | _ => none }
def planTellsRow : OpenClaim := { program := "ytmikeblbfmfimaadoor", sum := "65df4c999abd984c65776ca074201a70ba7f3b875f83a41fdb13862d925a77a3", func := "bargelock/bargelocklaw1.PlanTells", spec := "planTells", inPlace := ["internal/reflectlite.ValueOf", "(internal/reflectlite.Value).Type", "(internal/reflectlite.Value).IsNil", "internal/reflectlite.TypeOf", "(internal/reflectlite.Value).Elem", "(internal/reflectlite.Value).Set"], unfollowed := true, recurses := true, named := ["bargelock/api.ErrBound", "bargelock/api.ErrNone", "bargelock/api.ErrFull", "bargelock/api.ErrNode", "bargelock/api.ErrText", "bargelock/api.ErrShape", "bargelock/api.ErrExist", "bargelock/api.ErrSum", "bargelock/api.ErrLate", "bargelock/api.ErrGap", "bargelock/api.ErrOff", "errors.errorType"], plainKeys := false, apart := false, laid := [("errors.errorType", laid_errors_errorType), ("bargelock/api.ErrText", laid_bargelock_api_ErrText), ("bargelock/api.ErrBound", laid_bargelock_api_ErrBound), ("bargelock/api.ErrShape", laid_bargelock_api_ErrShape), ("bargelock/api.ErrNode", laid_bargelock_api_ErrNode), ("bargelock/api.ErrNone", laid_bargelock_api_ErrNone), ("bargelock/api.ErrExist", laid_bargelock_api_ErrExist), ("bargelock/api.ErrFull", laid_bargelock_api_ErrFull), ("bargelock/api.ErrSum", laid_bargelock_api_ErrSum), ("bargelock/api.ErrLate", laid_bargelock_api_ErrLate), ("bargelock/api.ErrGap", laid_bargelock_api_ErrGap), ("bargelock/api.ErrOff", laid_bargelock_api_ErrOff)] }
def PlanTellsSaid : Prop := planTellsRow.holds Tryd.pinned (OpenSpec.ofChange planTellsSpec)

/-- ITS FALSE NEIGHBOUR: 'it returns false'. Refute it at one input. -/
def planTellsWrong : ChangeSpec := { name := "planTells", fn := fun _ => fun
  | [d1, d2, d3] => { results := [.lit (.bool false)], args := [d1, d2, d3] }
  | _ => none }
def PlanTellsWrongFalsely : Prop := planTellsRow.holds Tryd.pinned (OpenSpec.ofChange planTellsWrong)

/-- 'bargelocklaw1.GuardTells': WHATEVER THE INPUT: true; the input reads as it did. -/
def guardTellsSpec : ChangeSpec := { name := "guardTells", fn := fun _ => fun
  | [d1, d2, d3, d4] => { results := [.lit (.bool true)], args := [d1, d2, d3, d4] }
  | _ => none }
def guardTellsRow : OpenClaim := { program := "ytmikeblbfmfimaadoor", sum := "65df4c999abd984c65776ca074201a70ba7f3b875f83a41fdb13862d925a77a3", func := "bargelock/bargelocklaw1.GuardTells", spec := "guardTells", inPlace := ["internal/reflectlite.ValueOf", "(internal/reflectlite.Value).Type", "(internal/reflectlite.Value).IsNil", "internal/reflectlite.TypeOf", "(internal/reflectlite.Value).Elem", "(internal/reflectlite.Value).Set"], unfollowed := true, recurses := true, named := ["bargelock/api.ErrBound", "bargelock/api.ErrNone", "bargelock/api.ErrFull", "bargelock/api.ErrNode", "bargelock/api.ErrLate", "bargelock/api.ErrText", "bargelock/api.ErrShape", "bargelock/api.ErrExist", "bargelock/api.ErrSum", "bargelock/api.ErrGap", "bargelock/api.ErrOff", "errors.errorType"], plainKeys := false, apart := false, laid := [("errors.errorType", laid_errors_errorType), ("bargelock/api.ErrText", laid_bargelock_api_ErrText), ("bargelock/api.ErrBound", laid_bargelock_api_ErrBound), ("bargelock/api.ErrShape", laid_bargelock_api_ErrShape), ("bargelock/api.ErrNode", laid_bargelock_api_ErrNode), ("bargelock/api.ErrNone", laid_bargelock_api_ErrNone), ("bargelock/api.ErrExist", laid_bargelock_api_ErrExist), ("bargelock/api.ErrFull", laid_bargelock_api_ErrFull), ("bargelock/api.ErrSum", laid_bargelock_api_ErrSum), ("bargelock/api.ErrLate", laid_bargelock_api_ErrLate), ("bargelock/api.ErrGap", laid_bargelock_api_ErrGap), ("bargelock/api.ErrOff", laid_bargelock_api_ErrOff)] }
def GuardTellsSaid : Prop := guardTellsRow.holds Tryd.pinned (OpenSpec.ofChange guardTellsSpec)

/-- ITS FALSE NEIGHBOUR: 'it returns false'. Refute it at one input. -/
def guardTellsWrong : ChangeSpec := { name := "guardTells", fn := fun _ => fun
  | [d1, d2, d3, d4] => { results := [.lit (.bool false)], args := [d1, d2, d3, d4] }
  | _ => none }
def GuardTellsWrongFalsely : Prop := guardTellsRow.holds Tryd.pinned (OpenSpec.ofChange guardTellsWrong)

/-- 'bargelocklaw2.DeltaTells': WHATEVER THE INPUT: true; the input reads as it did. -/
def deltaTellsSpec : ChangeSpec := { name := "deltaTells", fn := fun _ => fun
  | [d1, d2, d3, d4] => { results := [.lit (.bool true)], args := [d1, d2, d3, d4] }
  | _ => none }
def deltaTellsRow : OpenClaim := { program := "ytmikeblbfmfimaadoor", sum := "65df4c999abd984c65776ca074201a70ba7f3b875f83a41fdb13862d925a77a3", func := "bargelock/bargelocklaw2.DeltaTells", spec := "deltaTells", inPlace := ["internal/reflectlite.ValueOf", "(internal/reflectlite.Value).Type", "(internal/reflectlite.Value).IsNil", "internal/reflectlite.TypeOf", "(internal/reflectlite.Value).Elem", "(internal/reflectlite.Value).Set"], unfollowed := true, recurses := true, named := ["bargelock/api.ErrBound", "bargelock/api.ErrGap", "bargelock/api.ErrFull", "bargelock/api.ErrNode", "bargelock/api.ErrShape", "bargelock/api.ErrText", "bargelock/api.ErrNone", "bargelock/api.ErrExist", "bargelock/api.ErrSum", "bargelock/api.ErrLate", "bargelock/api.ErrOff", "errors.errorType"], plainKeys := false, apart := false, laid := [("errors.errorType", laid_errors_errorType), ("bargelock/api.ErrText", laid_bargelock_api_ErrText), ("bargelock/api.ErrBound", laid_bargelock_api_ErrBound), ("bargelock/api.ErrShape", laid_bargelock_api_ErrShape), ("bargelock/api.ErrNode", laid_bargelock_api_ErrNode), ("bargelock/api.ErrNone", laid_bargelock_api_ErrNone), ("bargelock/api.ErrExist", laid_bargelock_api_ErrExist), ("bargelock/api.ErrFull", laid_bargelock_api_ErrFull), ("bargelock/api.ErrSum", laid_bargelock_api_ErrSum), ("bargelock/api.ErrLate", laid_bargelock_api_ErrLate), ("bargelock/api.ErrGap", laid_bargelock_api_ErrGap), ("bargelock/api.ErrOff", laid_bargelock_api_ErrOff)] }
def DeltaTellsSaid : Prop := deltaTellsRow.holds Tryd.pinned (OpenSpec.ofChange deltaTellsSpec)

/-- ITS FALSE NEIGHBOUR: 'it returns false'. Refute it at one input. -/
def deltaTellsWrong : ChangeSpec := { name := "deltaTells", fn := fun _ => fun
  | [d1, d2, d3, d4] => { results := [.lit (.bool false)], args := [d1, d2, d3, d4] }
  | _ => none }
def DeltaTellsWrongFalsely : Prop := deltaTellsRow.holds Tryd.pinned (OpenSpec.ofChange deltaTellsWrong)

/-- 'bargelocklaw2.BusTells': WHATEVER THE INPUT: true; the input reads as it did. -/
def busTellsSpec : ChangeSpec := { name := "busTells", fn := fun _ => fun
  | [d1, d2, d3, d4, d5] => { results := [.lit (.bool true)], args := [d1, d2, d3, d4, d5] }
  | _ => none }
def busTellsRow : OpenClaim := { program := "ytmikeblbfmfimaadoor", sum := "65df4c999abd984c65776ca074201a70ba7f3b875f83a41fdb13862d925a77a3", func := "bargelock/bargelocklaw2.BusTells", spec := "busTells", inPlace := ["internal/reflectlite.ValueOf", "(internal/reflectlite.Value).Type", "(internal/reflectlite.Value).IsNil", "internal/reflectlite.TypeOf", "(internal/reflectlite.Value).Elem", "(internal/reflectlite.Value).Set"], unfollowed := true, recurses := true, named := ["bargelock/api.ErrBound", "bargelock/api.ErrFull", "bargelock/api.ErrNone", "bargelock/api.ErrNode", "bargelock/api.ErrLate", "bargelock/api.ErrText", "bargelock/api.ErrShape", "bargelock/api.ErrExist", "bargelock/api.ErrSum", "bargelock/api.ErrGap", "bargelock/api.ErrOff", "errors.errorType"], plainKeys := false, apart := false, laid := [("errors.errorType", laid_errors_errorType), ("bargelock/api.ErrText", laid_bargelock_api_ErrText), ("bargelock/api.ErrBound", laid_bargelock_api_ErrBound), ("bargelock/api.ErrShape", laid_bargelock_api_ErrShape), ("bargelock/api.ErrNode", laid_bargelock_api_ErrNode), ("bargelock/api.ErrNone", laid_bargelock_api_ErrNone), ("bargelock/api.ErrExist", laid_bargelock_api_ErrExist), ("bargelock/api.ErrFull", laid_bargelock_api_ErrFull), ("bargelock/api.ErrSum", laid_bargelock_api_ErrSum), ("bargelock/api.ErrLate", laid_bargelock_api_ErrLate), ("bargelock/api.ErrGap", laid_bargelock_api_ErrGap), ("bargelock/api.ErrOff", laid_bargelock_api_ErrOff)] }
def BusTellsSaid : Prop := busTellsRow.holds Tryd.pinned (OpenSpec.ofChange busTellsSpec)

/-- ITS FALSE NEIGHBOUR: 'it returns false'. Refute it at one input. -/
def busTellsWrong : ChangeSpec := { name := "busTells", fn := fun _ => fun
  | [d1, d2, d3, d4, d5] => { results := [.lit (.bool false)], args := [d1, d2, d3, d4, d5] }
  | _ => none }
def BusTellsWrongFalsely : Prop := busTellsRow.holds Tryd.pinned (OpenSpec.ofChange busTellsWrong)

/-- 'bargelocklaw2.ModeActs': WHATEVER THE INPUT: true; the input reads as it did. -/
def modeActsSpec : ChangeSpec := { name := "modeActs", fn := fun _ => fun
  | [d1, d2] => { results := [.lit (.bool true)], args := [d1, d2] }
  | _ => none }
def modeActsRow : OpenClaim := { program := "ytmikeblbfmfimaadoor", sum := "65df4c999abd984c65776ca074201a70ba7f3b875f83a41fdb13862d925a77a3", func := "bargelock/bargelocklaw2.ModeActs", spec := "modeActs", inPlace := ["internal/reflectlite.ValueOf", "(internal/reflectlite.Value).Type", "(internal/reflectlite.Value).IsNil", "internal/reflectlite.TypeOf", "(internal/reflectlite.Value).Elem", "(internal/reflectlite.Value).Set"], unfollowed := true, recurses := true, named := ["bargelock/api.ErrFull", "bargelock/api.ErrBound", "bargelock/api.ErrExist", "bargelock/api.ErrShape", "bargelock/api.ErrText", "bargelock/api.ErrNode", "bargelock/api.ErrNone", "bargelock/api.ErrSum", "bargelock/api.ErrLate", "bargelock/api.ErrGap", "bargelock/api.ErrOff", "errors.errorType"], plainKeys := false, apart := false, laid := [("errors.errorType", laid_errors_errorType), ("bargelock/api.ErrText", laid_bargelock_api_ErrText), ("bargelock/api.ErrBound", laid_bargelock_api_ErrBound), ("bargelock/api.ErrShape", laid_bargelock_api_ErrShape), ("bargelock/api.ErrNode", laid_bargelock_api_ErrNode), ("bargelock/api.ErrNone", laid_bargelock_api_ErrNone), ("bargelock/api.ErrExist", laid_bargelock_api_ErrExist), ("bargelock/api.ErrFull", laid_bargelock_api_ErrFull), ("bargelock/api.ErrSum", laid_bargelock_api_ErrSum), ("bargelock/api.ErrLate", laid_bargelock_api_ErrLate), ("bargelock/api.ErrGap", laid_bargelock_api_ErrGap), ("bargelock/api.ErrOff", laid_bargelock_api_ErrOff)] }
def ModeActsSaid : Prop := modeActsRow.holds Tryd.pinned (OpenSpec.ofChange modeActsSpec)

/-- ITS FALSE NEIGHBOUR: 'it returns false'. Refute it at one input. -/
def modeActsWrong : ChangeSpec := { name := "modeActs", fn := fun _ => fun
  | [d1, d2] => { results := [.lit (.bool false)], args := [d1, d2] }
  | _ => none }
def ModeActsWrongFalsely : Prop := modeActsRow.holds Tryd.pinned (OpenSpec.ofChange modeActsWrong)

/- THE SECOND FORM. 'bulk': how many values and letters a reading holds, each counted each time it is reached (what is shared counts as often as it is met; a slice's spare places count too). A statement '..UptoSaid' is the law's where the arguments, and the package variables that the reading takes, are together of bulk at most 1048576: NARROWER than '..Said'. Prove '..Said' where nothing that the law and all that it calls make is longer than what came in: it says more and counts as full. Else prove '..UptoSaid'. A law counts once. -/
mutual
def uptoBulk {H : Type} : DataW H → Nat
  | .lit (.string bytes) => bytes.length + 1
  | .lit _ => 1
  | .nil => 1
  | .ptr d => uptoBulk d + 1
  | .slice elems spare => uptoBulkAll elems + uptoBulkAll spare + 1
  | .agg parts => uptoBulkAll parts + 1
  | .iface _ d => uptoBulk d + 1
  | .map entries => uptoBulkEntries entries + 1
  | .held _ => 1
def uptoBulkAll {H : Type} : List (DataW H) → Nat
  | [] => 0
  | d :: r => uptoBulk d + uptoBulkAll r
def uptoBulkEntries {H : Type} : List (Lit × DataW H) → Nat
  | [] => 0
  | x :: r => uptoBulkEntry x + uptoBulkEntries r
def uptoBulkEntry {H : Type} : Lit × DataW H → Nat
  | (.string bytes, d) => bytes.length + uptoBulk d + 1
  | (_, d) => uptoBulk d + 1
 end
def uptoSmall : (H : Type) → List (DataW H) → Bool := fun _ ds => decide (uptoBulkAll ds ≤ 1048576)
def OpenSpec.upto (s : _root_.Go.ChangeSpec) : _root_.Go.OpenSpec := { _root_.Go.OpenSpec.ofChange s with cond := some uptoSmall }

/-- 'bargelocklaw1.Names', WHERE WHAT IT READS IS OF BULK AT MOST 1048576: true; the input reads as it did. -/
def namesUptoRow : OpenClaim := { program := "ytmikeblbfmfimaadoor", sum := "65df4c999abd984c65776ca074201a70ba7f3b875f83a41fdb13862d925a77a3", func := "bargelock/bargelocklaw1.Names", spec := "names", inPlace := ["internal/reflectlite.ValueOf", "(internal/reflectlite.Value).Type", "(internal/reflectlite.Value).IsNil", "internal/reflectlite.TypeOf", "(internal/reflectlite.Value).Elem", "(internal/reflectlite.Value).Set"], unfollowed := true, recurses := true, named := ["bargelock/api.ErrText", "bargelock/api.ErrBound", "bargelock/api.ErrShape", "bargelock/api.ErrNode", "bargelock/api.ErrNone", "bargelock/api.ErrExist", "bargelock/api.ErrFull", "bargelock/api.ErrSum", "bargelock/api.ErrLate", "bargelock/api.ErrGap", "bargelock/api.ErrOff", "errors.errorType"], plainKeys := false, apart := false, laid := [("errors.errorType", laid_errors_errorType), ("bargelock/api.ErrText", laid_bargelock_api_ErrText), ("bargelock/api.ErrBound", laid_bargelock_api_ErrBound), ("bargelock/api.ErrShape", laid_bargelock_api_ErrShape), ("bargelock/api.ErrNode", laid_bargelock_api_ErrNode), ("bargelock/api.ErrNone", laid_bargelock_api_ErrNone), ("bargelock/api.ErrExist", laid_bargelock_api_ErrExist), ("bargelock/api.ErrFull", laid_bargelock_api_ErrFull), ("bargelock/api.ErrSum", laid_bargelock_api_ErrSum), ("bargelock/api.ErrLate", laid_bargelock_api_ErrLate), ("bargelock/api.ErrGap", laid_bargelock_api_ErrGap), ("bargelock/api.ErrOff", laid_bargelock_api_ErrOff)], narrowed := true }
def NamesUptoSaid : Prop := namesUptoRow.holds Tryd.pinned (OpenSpec.upto namesSpec)

/-- 'bargelocklaw2.CliqueTells', WHERE WHAT IT READS IS OF BULK AT MOST 1048576: true; the input reads as it did. -/
def cliqueTellsUptoRow : OpenClaim := { program := "ytmikeblbfmfimaadoor", sum := "65df4c999abd984c65776ca074201a70ba7f3b875f83a41fdb13862d925a77a3", func := "bargelock/bargelocklaw2.CliqueTells", spec := "cliqueTells", inPlace := ["internal/reflectlite.ValueOf", "(internal/reflectlite.Value).Type", "(internal/reflectlite.Value).IsNil", "internal/reflectlite.TypeOf", "(internal/reflectlite.Value).Elem", "(internal/reflectlite.Value).Set"], unfollowed := true, recurses := true, named := ["bargelock/api.ErrBound", "bargelock/api.ErrFull", "bargelock/api.ErrGap", "bargelock/api.ErrNode", "bargelock/api.ErrShape", "bargelock/api.ErrText", "bargelock/api.ErrNone", "bargelock/api.ErrExist", "bargelock/api.ErrSum", "bargelock/api.ErrLate", "bargelock/api.ErrOff", "errors.errorType"], plainKeys := false, apart := false, laid := [("errors.errorType", laid_errors_errorType), ("bargelock/api.ErrText", laid_bargelock_api_ErrText), ("bargelock/api.ErrBound", laid_bargelock_api_ErrBound), ("bargelock/api.ErrShape", laid_bargelock_api_ErrShape), ("bargelock/api.ErrNode", laid_bargelock_api_ErrNode), ("bargelock/api.ErrNone", laid_bargelock_api_ErrNone), ("bargelock/api.ErrExist", laid_bargelock_api_ErrExist), ("bargelock/api.ErrFull", laid_bargelock_api_ErrFull), ("bargelock/api.ErrSum", laid_bargelock_api_ErrSum), ("bargelock/api.ErrLate", laid_bargelock_api_ErrLate), ("bargelock/api.ErrGap", laid_bargelock_api_ErrGap), ("bargelock/api.ErrOff", laid_bargelock_api_ErrOff)], narrowed := true }
def CliqueTellsUptoSaid : Prop := cliqueTellsUptoRow.holds Tryd.pinned (OpenSpec.upto cliqueTellsSpec)

/-- 'bargelocklaw1.PlanTells', WHERE WHAT IT READS IS OF BULK AT MOST 1048576: true; the input reads as it did. -/
def planTellsUptoRow : OpenClaim := { program := "ytmikeblbfmfimaadoor", sum := "65df4c999abd984c65776ca074201a70ba7f3b875f83a41fdb13862d925a77a3", func := "bargelock/bargelocklaw1.PlanTells", spec := "planTells", inPlace := ["internal/reflectlite.ValueOf", "(internal/reflectlite.Value).Type", "(internal/reflectlite.Value).IsNil", "internal/reflectlite.TypeOf", "(internal/reflectlite.Value).Elem", "(internal/reflectlite.Value).Set"], unfollowed := true, recurses := true, named := ["bargelock/api.ErrBound", "bargelock/api.ErrNone", "bargelock/api.ErrFull", "bargelock/api.ErrNode", "bargelock/api.ErrText", "bargelock/api.ErrShape", "bargelock/api.ErrExist", "bargelock/api.ErrSum", "bargelock/api.ErrLate", "bargelock/api.ErrGap", "bargelock/api.ErrOff", "errors.errorType"], plainKeys := false, apart := false, laid := [("errors.errorType", laid_errors_errorType), ("bargelock/api.ErrText", laid_bargelock_api_ErrText), ("bargelock/api.ErrBound", laid_bargelock_api_ErrBound), ("bargelock/api.ErrShape", laid_bargelock_api_ErrShape), ("bargelock/api.ErrNode", laid_bargelock_api_ErrNode), ("bargelock/api.ErrNone", laid_bargelock_api_ErrNone), ("bargelock/api.ErrExist", laid_bargelock_api_ErrExist), ("bargelock/api.ErrFull", laid_bargelock_api_ErrFull), ("bargelock/api.ErrSum", laid_bargelock_api_ErrSum), ("bargelock/api.ErrLate", laid_bargelock_api_ErrLate), ("bargelock/api.ErrGap", laid_bargelock_api_ErrGap), ("bargelock/api.ErrOff", laid_bargelock_api_ErrOff)], narrowed := true }
def PlanTellsUptoSaid : Prop := planTellsUptoRow.holds Tryd.pinned (OpenSpec.upto planTellsSpec)

/-- 'bargelocklaw1.GuardTells', WHERE WHAT IT READS IS OF BULK AT MOST 1048576: true; the input reads as it did. -/
def guardTellsUptoRow : OpenClaim := { program := "ytmikeblbfmfimaadoor", sum := "65df4c999abd984c65776ca074201a70ba7f3b875f83a41fdb13862d925a77a3", func := "bargelock/bargelocklaw1.GuardTells", spec := "guardTells", inPlace := ["internal/reflectlite.ValueOf", "(internal/reflectlite.Value).Type", "(internal/reflectlite.Value).IsNil", "internal/reflectlite.TypeOf", "(internal/reflectlite.Value).Elem", "(internal/reflectlite.Value).Set"], unfollowed := true, recurses := true, named := ["bargelock/api.ErrBound", "bargelock/api.ErrNone", "bargelock/api.ErrFull", "bargelock/api.ErrNode", "bargelock/api.ErrLate", "bargelock/api.ErrText", "bargelock/api.ErrShape", "bargelock/api.ErrExist", "bargelock/api.ErrSum", "bargelock/api.ErrGap", "bargelock/api.ErrOff", "errors.errorType"], plainKeys := false, apart := false, laid := [("errors.errorType", laid_errors_errorType), ("bargelock/api.ErrText", laid_bargelock_api_ErrText), ("bargelock/api.ErrBound", laid_bargelock_api_ErrBound), ("bargelock/api.ErrShape", laid_bargelock_api_ErrShape), ("bargelock/api.ErrNode", laid_bargelock_api_ErrNode), ("bargelock/api.ErrNone", laid_bargelock_api_ErrNone), ("bargelock/api.ErrExist", laid_bargelock_api_ErrExist), ("bargelock/api.ErrFull", laid_bargelock_api_ErrFull), ("bargelock/api.ErrSum", laid_bargelock_api_ErrSum), ("bargelock/api.ErrLate", laid_bargelock_api_ErrLate), ("bargelock/api.ErrGap", laid_bargelock_api_ErrGap), ("bargelock/api.ErrOff", laid_bargelock_api_ErrOff)], narrowed := true }
def GuardTellsUptoSaid : Prop := guardTellsUptoRow.holds Tryd.pinned (OpenSpec.upto guardTellsSpec)

/-- 'bargelocklaw2.DeltaTells', WHERE WHAT IT READS IS OF BULK AT MOST 1048576: true; the input reads as it did. -/
def deltaTellsUptoRow : OpenClaim := { program := "ytmikeblbfmfimaadoor", sum := "65df4c999abd984c65776ca074201a70ba7f3b875f83a41fdb13862d925a77a3", func := "bargelock/bargelocklaw2.DeltaTells", spec := "deltaTells", inPlace := ["internal/reflectlite.ValueOf", "(internal/reflectlite.Value).Type", "(internal/reflectlite.Value).IsNil", "internal/reflectlite.TypeOf", "(internal/reflectlite.Value).Elem", "(internal/reflectlite.Value).Set"], unfollowed := true, recurses := true, named := ["bargelock/api.ErrBound", "bargelock/api.ErrGap", "bargelock/api.ErrFull", "bargelock/api.ErrNode", "bargelock/api.ErrShape", "bargelock/api.ErrText", "bargelock/api.ErrNone", "bargelock/api.ErrExist", "bargelock/api.ErrSum", "bargelock/api.ErrLate", "bargelock/api.ErrOff", "errors.errorType"], plainKeys := false, apart := false, laid := [("errors.errorType", laid_errors_errorType), ("bargelock/api.ErrText", laid_bargelock_api_ErrText), ("bargelock/api.ErrBound", laid_bargelock_api_ErrBound), ("bargelock/api.ErrShape", laid_bargelock_api_ErrShape), ("bargelock/api.ErrNode", laid_bargelock_api_ErrNode), ("bargelock/api.ErrNone", laid_bargelock_api_ErrNone), ("bargelock/api.ErrExist", laid_bargelock_api_ErrExist), ("bargelock/api.ErrFull", laid_bargelock_api_ErrFull), ("bargelock/api.ErrSum", laid_bargelock_api_ErrSum), ("bargelock/api.ErrLate", laid_bargelock_api_ErrLate), ("bargelock/api.ErrGap", laid_bargelock_api_ErrGap), ("bargelock/api.ErrOff", laid_bargelock_api_ErrOff)], narrowed := true }
def DeltaTellsUptoSaid : Prop := deltaTellsUptoRow.holds Tryd.pinned (OpenSpec.upto deltaTellsSpec)

/-- 'bargelocklaw2.BusTells', WHERE WHAT IT READS IS OF BULK AT MOST 1048576: true; the input reads as it did. -/
def busTellsUptoRow : OpenClaim := { program := "ytmikeblbfmfimaadoor", sum := "65df4c999abd984c65776ca074201a70ba7f3b875f83a41fdb13862d925a77a3", func := "bargelock/bargelocklaw2.BusTells", spec := "busTells", inPlace := ["internal/reflectlite.ValueOf", "(internal/reflectlite.Value).Type", "(internal/reflectlite.Value).IsNil", "internal/reflectlite.TypeOf", "(internal/reflectlite.Value).Elem", "(internal/reflectlite.Value).Set"], unfollowed := true, recurses := true, named := ["bargelock/api.ErrBound", "bargelock/api.ErrFull", "bargelock/api.ErrNone", "bargelock/api.ErrNode", "bargelock/api.ErrLate", "bargelock/api.ErrText", "bargelock/api.ErrShape", "bargelock/api.ErrExist", "bargelock/api.ErrSum", "bargelock/api.ErrGap", "bargelock/api.ErrOff", "errors.errorType"], plainKeys := false, apart := false, laid := [("errors.errorType", laid_errors_errorType), ("bargelock/api.ErrText", laid_bargelock_api_ErrText), ("bargelock/api.ErrBound", laid_bargelock_api_ErrBound), ("bargelock/api.ErrShape", laid_bargelock_api_ErrShape), ("bargelock/api.ErrNode", laid_bargelock_api_ErrNode), ("bargelock/api.ErrNone", laid_bargelock_api_ErrNone), ("bargelock/api.ErrExist", laid_bargelock_api_ErrExist), ("bargelock/api.ErrFull", laid_bargelock_api_ErrFull), ("bargelock/api.ErrSum", laid_bargelock_api_ErrSum), ("bargelock/api.ErrLate", laid_bargelock_api_ErrLate), ("bargelock/api.ErrGap", laid_bargelock_api_ErrGap), ("bargelock/api.ErrOff", laid_bargelock_api_ErrOff)], narrowed := true }
def BusTellsUptoSaid : Prop := busTellsUptoRow.holds Tryd.pinned (OpenSpec.upto busTellsSpec)

/-- 'bargelocklaw2.ModeActs', WHERE WHAT IT READS IS OF BULK AT MOST 1048576: true; the input reads as it did. -/
def modeActsUptoRow : OpenClaim := { program := "ytmikeblbfmfimaadoor", sum := "65df4c999abd984c65776ca074201a70ba7f3b875f83a41fdb13862d925a77a3", func := "bargelock/bargelocklaw2.ModeActs", spec := "modeActs", inPlace := ["internal/reflectlite.ValueOf", "(internal/reflectlite.Value).Type", "(internal/reflectlite.Value).IsNil", "internal/reflectlite.TypeOf", "(internal/reflectlite.Value).Elem", "(internal/reflectlite.Value).Set"], unfollowed := true, recurses := true, named := ["bargelock/api.ErrFull", "bargelock/api.ErrBound", "bargelock/api.ErrExist", "bargelock/api.ErrShape", "bargelock/api.ErrText", "bargelock/api.ErrNode", "bargelock/api.ErrNone", "bargelock/api.ErrSum", "bargelock/api.ErrLate", "bargelock/api.ErrGap", "bargelock/api.ErrOff", "errors.errorType"], plainKeys := false, apart := false, laid := [("errors.errorType", laid_errors_errorType), ("bargelock/api.ErrText", laid_bargelock_api_ErrText), ("bargelock/api.ErrBound", laid_bargelock_api_ErrBound), ("bargelock/api.ErrShape", laid_bargelock_api_ErrShape), ("bargelock/api.ErrNode", laid_bargelock_api_ErrNode), ("bargelock/api.ErrNone", laid_bargelock_api_ErrNone), ("bargelock/api.ErrExist", laid_bargelock_api_ErrExist), ("bargelock/api.ErrFull", laid_bargelock_api_ErrFull), ("bargelock/api.ErrSum", laid_bargelock_api_ErrSum), ("bargelock/api.ErrLate", laid_bargelock_api_ErrLate), ("bargelock/api.ErrGap", laid_bargelock_api_ErrGap), ("bargelock/api.ErrOff", laid_bargelock_api_ErrOff)], narrowed := true }
def ModeActsUptoSaid : Prop := modeActsUptoRow.holds Tryd.pinned (OpenSpec.upto modeActsSpec)

end Rows
end Go.Proofs.YtmikeblbfmfimaaDoor
