/-
  NARROWER THAN 'FOR EVERY INPUT', by the rows' own cells (each row's printed sentence says how): CliqueOne: laid · PlanWaits: laid · DeltaWhole: laid · BusOne: laid · ModeGoes: laid · GuardOne: laid.
  DERIVED. THE GIVEN ROWS OF THIS SEAT. 6 by the template 'for every input the law returns true; each argument reads behind the call as it read before'; 0 by the template 'total and deterministic' (their statements: YtbhjjbfhncfbdaaDoorTotals.lean).
  GIVEN WITH THE SEED: the statements are not yours to turn. If you find one false, say at which input.
  Laid BY PROGRAM, IN A SANDBOX (cutbox-rows.mjs): the forced cells as the released guide's own fill.sh prints them over the translation 64cab03d58c232a6… (all of the seat's roots in one cut). By AI agents, Wed Nov 11 2026. No macro, syntax, notation, axiom, sorry.
-/
import Derived.Test.YtbhjjbfhncfbdaaDoorChecked
import GoSem.Claim
import GoSem.ClaimJoined
import GoSem.ClaimMapViews
import Derived.JoinedTies
import Derived.KernelRfl
namespace Go.Proofs.YtbhjjbfhncfbdaaDoor
/- THE CELL 'sum', in the pinned program and in every row, IS THE sha256 OF THE DUMP (.gsa) THAT YtbhjjbfhncfbdaaDoorProg.lean LOADS. Nothing in Lean hashes anything: it is a label: what it is worth is what the hold of that sum in a sandbox is worth. -/
noncomputable def Tryd.pinned : Pinned := { name := "ytbhjjbfhncfbdaadoor", sum := "64cab03d58c232a682be74d6047d9dd0b668493d46f31f8db115244b73364425", checked := Tryd.checked }
namespace Rows
def none {H : Type} : Left H := { results := [], args := [] }

/- WHAT THE LISTED PACKAGE-LEVEL VARIABLES READ AS WHEN THE CALL BEGINS. Each datum BY PROGRAM (the guide's laid-datum.mjs) off the statement by which the dump's own 'gosem.cut.vars' lays the variable. In a bare row this is a premise. The card (YtbhjjbfhncfbdaaDoorCards.lean) ties it to the program's text. -/
def laid_bargelock_api_ErrBound {H : Type} : DataW H := .iface "*errors.errorString" (.ptr (.agg [.lit (.string [98, 97, 114, 103, 101, 108, 111, 99, 107, 58, 32, 98, 111, 117, 110, 100])]))
def laid_bargelock_api_ErrShape {H : Type} : DataW H := .iface "*errors.errorString" (.ptr (.agg [.lit (.string [98, 97, 114, 103, 101, 108, 111, 99, 107, 58, 32, 115, 104, 97, 112, 101])]))
def laid_bargelock_api_ErrNode {H : Type} : DataW H := .iface "*errors.errorString" (.ptr (.agg [.lit (.string [98, 97, 114, 103, 101, 108, 111, 99, 107, 58, 32, 110, 111, 100, 101])]))
def laid_bargelock_api_ErrFull {H : Type} : DataW H := .iface "*errors.errorString" (.ptr (.agg [.lit (.string [98, 97, 114, 103, 101, 108, 111, 99, 107, 58, 32, 102, 117, 108, 108])]))
def laid_bargelock_api_ErrGap {H : Type} : DataW H := .iface "*errors.errorString" (.ptr (.agg [.lit (.string [98, 97, 114, 103, 101, 108, 111, 99, 107, 58, 32, 103, 97, 112])]))
def laid_bargelock_api_ErrNone {H : Type} : DataW H := .iface "*errors.errorString" (.ptr (.agg [.lit (.string [98, 97, 114, 103, 101, 108, 111, 99, 107, 58, 32, 110, 111, 110, 101])]))
def laid_bargelock_api_ErrLate {H : Type} : DataW H := .iface "*errors.errorString" (.ptr (.agg [.lit (.string [98, 97, 114, 103, 101, 108, 111, 99, 107, 58, 32, 108, 97, 116, 101])]))
def laid_errors_errorType {H : Type} : DataW H := .iface "internal/reflectlite.rtype" (.agg [.ptr (.lit (.string [101, 114, 114, 111, 114]))])
def laid_bargelock_api_ErrText {H : Type} : DataW H := .iface "*errors.errorString" (.ptr (.agg [.lit (.string [98, 97, 114, 103, 101, 108, 111, 99, 107, 58, 32, 116, 101, 120, 116])]))
def laid_bargelock_api_ErrExist {H : Type} : DataW H := .iface "*errors.errorString" (.ptr (.agg [.lit (.string [98, 97, 114, 103, 101, 108, 111, 99, 107, 58, 32, 101, 120, 105, 115, 116])]))
def laid_bargelock_api_ErrSum {H : Type} : DataW H := .iface "*errors.errorString" (.ptr (.agg [.lit (.string [98, 97, 114, 103, 101, 108, 111, 99, 107, 58, 32, 115, 117, 109])]))
def laid_bargelock_api_ErrOff {H : Type} : DataW H := .iface "*errors.errorString" (.ptr (.agg [.lit (.string [98, 97, 114, 103, 101, 108, 111, 99, 107, 58, 32, 111, 102, 102])]))

/-- 'bargelocklaw2.CliqueOne': WHATEVER THE INPUT: true; the input reads as it did. -/
def cliqueOneSpec : ChangeSpec := { name := "cliqueOne", fn := fun _ => fun
  | [d1, d2, d3] => { results := [.lit (.bool true)], args := [d1, d2, d3] }
  | _ => none }
def cliqueOneRow : OpenClaim := { program := "ytbhjjbfhncfbdaadoor", sum := "64cab03d58c232a682be74d6047d9dd0b668493d46f31f8db115244b73364425", func := "bargelock/bargelocklaw2.CliqueOne", spec := "cliqueOne", named := ["bargelock/api.ErrBound", "bargelock/api.ErrFull", "bargelock/api.ErrGap", "bargelock/api.ErrNode", "bargelock/api.ErrShape"], plainKeys := false, apart := false, laid := [("bargelock/api.ErrBound", laid_bargelock_api_ErrBound), ("bargelock/api.ErrShape", laid_bargelock_api_ErrShape), ("bargelock/api.ErrNode", laid_bargelock_api_ErrNode), ("bargelock/api.ErrFull", laid_bargelock_api_ErrFull), ("bargelock/api.ErrGap", laid_bargelock_api_ErrGap)] }
def CliqueOneSaid : Prop := cliqueOneRow.holds Tryd.pinned (OpenSpec.ofChange cliqueOneSpec)

/-- ITS FALSE NEIGHBOUR: 'it returns false'. Refute it at one input. -/
def cliqueOneWrong : ChangeSpec := { name := "cliqueOne", fn := fun _ => fun
  | [d1, d2, d3] => { results := [.lit (.bool false)], args := [d1, d2, d3] }
  | _ => none }
def CliqueOneWrongFalsely : Prop := cliqueOneRow.holds Tryd.pinned (OpenSpec.ofChange cliqueOneWrong)

/-- 'bargelocklaw1.PlanWaits': WHATEVER THE INPUT: true; the input reads as it did. -/
def planWaitsSpec : ChangeSpec := { name := "planWaits", fn := fun _ => fun
  | [d1, d2, d3] => { results := [.lit (.bool true)], args := [d1, d2, d3] }
  | _ => none }
def planWaitsRow : OpenClaim := { program := "ytbhjjbfhncfbdaadoor", sum := "64cab03d58c232a682be74d6047d9dd0b668493d46f31f8db115244b73364425", func := "bargelock/bargelocklaw1.PlanWaits", spec := "planWaits", unfollowed := true, recurses := true, named := ["bargelock/api.ErrBound", "bargelock/api.ErrNone", "bargelock/api.ErrFull", "bargelock/api.ErrNode"], plainKeys := false, apart := false, laid := [("bargelock/api.ErrBound", laid_bargelock_api_ErrBound), ("bargelock/api.ErrNode", laid_bargelock_api_ErrNode), ("bargelock/api.ErrNone", laid_bargelock_api_ErrNone), ("bargelock/api.ErrFull", laid_bargelock_api_ErrFull)] }
def PlanWaitsSaid : Prop := planWaitsRow.holds Tryd.pinned (OpenSpec.ofChange planWaitsSpec)

/-- ITS FALSE NEIGHBOUR: 'it returns false'. Refute it at one input. -/
def planWaitsWrong : ChangeSpec := { name := "planWaits", fn := fun _ => fun
  | [d1, d2, d3] => { results := [.lit (.bool false)], args := [d1, d2, d3] }
  | _ => none }
def PlanWaitsWrongFalsely : Prop := planWaitsRow.holds Tryd.pinned (OpenSpec.ofChange planWaitsWrong)

/-- 'bargelocklaw2.DeltaWhole': WHATEVER THE INPUT: true; the input reads as it did. -/
def deltaWholeSpec : ChangeSpec := { name := "deltaWhole", fn := fun _ => fun
  | [d1, d2, d3] => { results := [.lit (.bool true)], args := [d1, d2, d3] }
  | _ => none }
def deltaWholeRow : OpenClaim := { program := "ytbhjjbfhncfbdaadoor", sum := "64cab03d58c232a682be74d6047d9dd0b668493d46f31f8db115244b73364425", func := "bargelock/bargelocklaw2.DeltaWhole", spec := "deltaWhole", named := ["bargelock/api.ErrBound", "bargelock/api.ErrGap", "bargelock/api.ErrFull", "bargelock/api.ErrNode", "bargelock/api.ErrShape"], plainKeys := false, apart := false, laid := [("bargelock/api.ErrBound", laid_bargelock_api_ErrBound), ("bargelock/api.ErrShape", laid_bargelock_api_ErrShape), ("bargelock/api.ErrNode", laid_bargelock_api_ErrNode), ("bargelock/api.ErrFull", laid_bargelock_api_ErrFull), ("bargelock/api.ErrGap", laid_bargelock_api_ErrGap)] }
def DeltaWholeSaid : Prop := deltaWholeRow.holds Tryd.pinned (OpenSpec.ofChange deltaWholeSpec)

/-- ITS FALSE NEIGHBOUR: 'it returns false'. Refute it at one input. -/
def deltaWholeWrong : ChangeSpec := { name := "deltaWhole", fn := fun _ => fun
  | [d1, d2, d3] => { results := [.lit (.bool false)], args := [d1, d2, d3] }
  | _ => none }
def DeltaWholeWrongFalsely : Prop := deltaWholeRow.holds Tryd.pinned (OpenSpec.ofChange deltaWholeWrong)

/-- 'bargelocklaw2.BusOne': WHATEVER THE INPUT: true; the input reads as it did. -/
def busOneSpec : ChangeSpec := { name := "busOne", fn := fun _ => fun
  | [d1, d2, d3, d4, d5] => { results := [.lit (.bool true)], args := [d1, d2, d3, d4, d5] }
  | _ => none }
def busOneRow : OpenClaim := { program := "ytbhjjbfhncfbdaadoor", sum := "64cab03d58c232a682be74d6047d9dd0b668493d46f31f8db115244b73364425", func := "bargelock/bargelocklaw2.BusOne", spec := "busOne", unfollowed := true, recurses := true, named := ["bargelock/api.ErrBound", "bargelock/api.ErrFull", "bargelock/api.ErrNone", "bargelock/api.ErrNode", "bargelock/api.ErrLate"], plainKeys := false, apart := false, laid := [("bargelock/api.ErrBound", laid_bargelock_api_ErrBound), ("bargelock/api.ErrNode", laid_bargelock_api_ErrNode), ("bargelock/api.ErrNone", laid_bargelock_api_ErrNone), ("bargelock/api.ErrFull", laid_bargelock_api_ErrFull), ("bargelock/api.ErrLate", laid_bargelock_api_ErrLate)] }
def BusOneSaid : Prop := busOneRow.holds Tryd.pinned (OpenSpec.ofChange busOneSpec)

/-- ITS FALSE NEIGHBOUR: 'it returns false'. Refute it at one input. -/
def busOneWrong : ChangeSpec := { name := "busOne", fn := fun _ => fun
  | [d1, d2, d3, d4, d5] => { results := [.lit (.bool false)], args := [d1, d2, d3, d4, d5] }
  | _ => none }
def BusOneWrongFalsely : Prop := busOneRow.holds Tryd.pinned (OpenSpec.ofChange busOneWrong)

/-- 'bargelocklaw2.ModeGoes': WHATEVER THE INPUT: true; the input reads as it did. -/
def modeGoesSpec : ChangeSpec := { name := "modeGoes", fn := fun _ => fun
  | [d1, d2] => { results := [.lit (.bool true)], args := [d1, d2] }
  | _ => none }
def modeGoesRow : OpenClaim := { program := "ytbhjjbfhncfbdaadoor", sum := "64cab03d58c232a682be74d6047d9dd0b668493d46f31f8db115244b73364425", func := "bargelock/bargelocklaw2.ModeGoes", spec := "modeGoes", inPlace := ["internal/reflectlite.ValueOf", "(internal/reflectlite.Value).Type", "(internal/reflectlite.Value).IsNil", "internal/reflectlite.TypeOf", "(internal/reflectlite.Value).Elem", "(internal/reflectlite.Value).Set"], unfollowed := true, recurses := true, named := ["bargelock/api.ErrFull", "bargelock/api.ErrBound", "bargelock/api.ErrExist", "bargelock/api.ErrShape", "bargelock/api.ErrText", "bargelock/api.ErrNode", "bargelock/api.ErrNone", "bargelock/api.ErrSum", "bargelock/api.ErrLate", "bargelock/api.ErrGap", "bargelock/api.ErrOff", "errors.errorType"], plainKeys := false, apart := false, laid := [("errors.errorType", laid_errors_errorType), ("bargelock/api.ErrText", laid_bargelock_api_ErrText), ("bargelock/api.ErrBound", laid_bargelock_api_ErrBound), ("bargelock/api.ErrShape", laid_bargelock_api_ErrShape), ("bargelock/api.ErrNode", laid_bargelock_api_ErrNode), ("bargelock/api.ErrNone", laid_bargelock_api_ErrNone), ("bargelock/api.ErrExist", laid_bargelock_api_ErrExist), ("bargelock/api.ErrFull", laid_bargelock_api_ErrFull), ("bargelock/api.ErrSum", laid_bargelock_api_ErrSum), ("bargelock/api.ErrLate", laid_bargelock_api_ErrLate), ("bargelock/api.ErrGap", laid_bargelock_api_ErrGap), ("bargelock/api.ErrOff", laid_bargelock_api_ErrOff)] }
def ModeGoesSaid : Prop := modeGoesRow.holds Tryd.pinned (OpenSpec.ofChange modeGoesSpec)

/-- ITS FALSE NEIGHBOUR: 'it returns false'. Refute it at one input. -/
def modeGoesWrong : ChangeSpec := { name := "modeGoes", fn := fun _ => fun
  | [d1, d2] => { results := [.lit (.bool false)], args := [d1, d2] }
  | _ => none }
def ModeGoesWrongFalsely : Prop := modeGoesRow.holds Tryd.pinned (OpenSpec.ofChange modeGoesWrong)

/-- 'bargelocklaw1.GuardOne': WHATEVER THE INPUT: true; the input reads as it did. -/
def guardOneSpec : ChangeSpec := { name := "guardOne", fn := fun _ => fun
  | [d1, d2, d3, d4] => { results := [.lit (.bool true)], args := [d1, d2, d3, d4] }
  | _ => none }
def guardOneRow : OpenClaim := { program := "ytbhjjbfhncfbdaadoor", sum := "64cab03d58c232a682be74d6047d9dd0b668493d46f31f8db115244b73364425", func := "bargelock/bargelocklaw1.GuardOne", spec := "guardOne", inPlace := ["internal/reflectlite.ValueOf", "(internal/reflectlite.Value).Type", "(internal/reflectlite.Value).IsNil", "internal/reflectlite.TypeOf", "(internal/reflectlite.Value).Elem", "(internal/reflectlite.Value).Set"], unfollowed := true, recurses := true, named := ["bargelock/api.ErrBound", "bargelock/api.ErrNone", "bargelock/api.ErrFull", "bargelock/api.ErrNode", "bargelock/api.ErrLate", "bargelock/api.ErrText", "bargelock/api.ErrShape", "bargelock/api.ErrExist", "bargelock/api.ErrSum", "bargelock/api.ErrGap", "bargelock/api.ErrOff", "errors.errorType"], plainKeys := false, apart := false, laid := [("errors.errorType", laid_errors_errorType), ("bargelock/api.ErrText", laid_bargelock_api_ErrText), ("bargelock/api.ErrBound", laid_bargelock_api_ErrBound), ("bargelock/api.ErrShape", laid_bargelock_api_ErrShape), ("bargelock/api.ErrNode", laid_bargelock_api_ErrNode), ("bargelock/api.ErrNone", laid_bargelock_api_ErrNone), ("bargelock/api.ErrExist", laid_bargelock_api_ErrExist), ("bargelock/api.ErrFull", laid_bargelock_api_ErrFull), ("bargelock/api.ErrSum", laid_bargelock_api_ErrSum), ("bargelock/api.ErrLate", laid_bargelock_api_ErrLate), ("bargelock/api.ErrGap", laid_bargelock_api_ErrGap), ("bargelock/api.ErrOff", laid_bargelock_api_ErrOff)] }
def GuardOneSaid : Prop := guardOneRow.holds Tryd.pinned (OpenSpec.ofChange guardOneSpec)

/-- ITS FALSE NEIGHBOUR: 'it returns false'. Refute it at one input. -/
def guardOneWrong : ChangeSpec := { name := "guardOne", fn := fun _ => fun
  | [d1, d2, d3, d4] => { results := [.lit (.bool false)], args := [d1, d2, d3, d4] }
  | _ => none }
def GuardOneWrongFalsely : Prop := guardOneRow.holds Tryd.pinned (OpenSpec.ofChange guardOneWrong)

/- THE SECOND FORM. 'bulk': how many values and letters a reading holds, each counted each time it is reached (what is shared counts as often as it is met; a slice's spare places count too). A statement '..UptoSaid' is the law's where the arguments, and the package variables that the reading takes, are together of bulk at most 1048576: NARROWER than '..Said'. Prove '..Said' where nothing that the law and all that it calls make is longer than what came in: it says more and counts as full. Else prove '..UptoSaid'. A law counts once. -/
mutual
def uptoBulk {H : Type} : DataW H → Nat
  | .lit (.string bytes) => bytes.length + 1
  | .lit _ => 1
  | .nil => 1
  | .ptr d => uptoBulk d + 1
  | .slice elems spare => uptoBulkAll elems + uptoBulkAll spare + 1
  | .agg parts => uptoBulkAll parts + 1
  | .iface _ d => uptoBulk d + 1
  | .map entries => uptoBulkEntries entries + 1
  | .held _ => 1
def uptoBulkAll {H : Type} : List (DataW H) → Nat
  | [] => 0
  | d :: r => uptoBulk d + uptoBulkAll r
def uptoBulkEntries {H : Type} : List (Lit × DataW H) → Nat
  | [] => 0
  | x :: r => uptoBulkEntry x + uptoBulkEntries r
def uptoBulkEntry {H : Type} : Lit × DataW H → Nat
  | (.string bytes, d) => bytes.length + uptoBulk d + 1
  | (_, d) => uptoBulk d + 1
 end
def uptoSmall : (H : Type) → List (DataW H) → Bool := fun _ ds => decide (uptoBulkAll ds ≤ 1048576)
def OpenSpec.upto (s : _root_.Go.ChangeSpec) : _root_.Go.OpenSpec := { _root_.Go.OpenSpec.ofChange s with cond := some uptoSmall }

/-- 'bargelocklaw2.CliqueOne', WHERE WHAT IT READS IS OF BULK AT MOST 1048576: true; the input reads as it did. -/
def cliqueOneUptoRow : OpenClaim := { program := "ytbhjjbfhncfbdaadoor", sum := "64cab03d58c232a682be74d6047d9dd0b668493d46f31f8db115244b73364425", func := "bargelock/bargelocklaw2.CliqueOne", spec := "cliqueOne", named := ["bargelock/api.ErrBound", "bargelock/api.ErrFull", "bargelock/api.ErrGap", "bargelock/api.ErrNode", "bargelock/api.ErrShape"], plainKeys := false, apart := false, laid := [("bargelock/api.ErrBound", laid_bargelock_api_ErrBound), ("bargelock/api.ErrShape", laid_bargelock_api_ErrShape), ("bargelock/api.ErrNode", laid_bargelock_api_ErrNode), ("bargelock/api.ErrFull", laid_bargelock_api_ErrFull), ("bargelock/api.ErrGap", laid_bargelock_api_ErrGap)], narrowed := true }
def CliqueOneUptoSaid : Prop := cliqueOneUptoRow.holds Tryd.pinned (OpenSpec.upto cliqueOneSpec)

/-- 'bargelocklaw1.PlanWaits', WHERE WHAT IT READS IS OF BULK AT MOST 1048576: true; the input reads as it did. -/
def planWaitsUptoRow : OpenClaim := { program := "ytbhjjbfhncfbdaadoor", sum := "64cab03d58c232a682be74d6047d9dd0b668493d46f31f8db115244b73364425", func := "bargelock/bargelocklaw1.PlanWaits", spec := "planWaits", unfollowed := true, recurses := true, named := ["bargelock/api.ErrBound", "bargelock/api.ErrNone", "bargelock/api.ErrFull", "bargelock/api.ErrNode"], plainKeys := false, apart := false, laid := [("bargelock/api.ErrBound", laid_bargelock_api_ErrBound), ("bargelock/api.ErrNode", laid_bargelock_api_ErrNode), ("bargelock/api.ErrNone", laid_bargelock_api_ErrNone), ("bargelock/api.ErrFull", laid_bargelock_api_ErrFull)], narrowed := true }
def PlanWaitsUptoSaid : Prop := planWaitsUptoRow.holds Tryd.pinned (OpenSpec.upto planWaitsSpec)

/-- 'bargelocklaw2.DeltaWhole', WHERE WHAT IT READS IS OF BULK AT MOST 1048576: true; the input reads as it did. -/
def deltaWholeUptoRow : OpenClaim := { program := "ytbhjjbfhncfbdaadoor", sum := "64cab03d58c232a682be74d6047d9dd0b668493d46f31f8db115244b73364425", func := "bargelock/bargelocklaw2.DeltaWhole", spec := "deltaWhole", named := ["bargelock/api.ErrBound", "bargelock/api.ErrGap", "bargelock/api.ErrFull", "bargelock/api.ErrNode", "bargelock/api.ErrShape"], plainKeys := false, apart := false, laid := [("bargelock/api.ErrBound", laid_bargelock_api_ErrBound), ("bargelock/api.ErrShape", laid_bargelock_api_ErrShape), ("bargelock/api.ErrNode", laid_bargelock_api_ErrNode), ("bargelock/api.ErrFull", laid_bargelock_api_ErrFull), ("bargelock/api.ErrGap", laid_bargelock_api_ErrGap)], narrowed := true }
def DeltaWholeUptoSaid : Prop := deltaWholeUptoRow.holds Tryd.pinned (OpenSpec.upto deltaWholeSpec)

/-- 'bargelocklaw2.BusOne', WHERE WHAT IT READS IS OF BULK AT MOST 1048576: true; the input reads as it did. -/
def busOneUptoRow : OpenClaim := { program := "ytbhjjbfhncfbdaadoor", sum := "64cab03d58c232a682be74d6047d9dd0b668493d46f31f8db115244b73364425", func := "bargelock/bargelocklaw2.BusOne", spec := "busOne", unfollowed := true, recurses := true, named := ["bargelock/api.ErrBound", "bargelock/api.ErrFull", "bargelock/api.ErrNone", "bargelock/api.ErrNode", "bargelock/api.ErrLate"], plainKeys := false, apart := false, laid := [("bargelock/api.ErrBound", laid_bargelock_api_ErrBound), ("bargelock/api.ErrNode", laid_bargelock_api_ErrNode), ("bargelock/api.ErrNone", laid_bargelock_api_ErrNone), ("bargelock/api.ErrFull", laid_bargelock_api_ErrFull), ("bargelock/api.ErrLate", laid_bargelock_api_ErrLate)], narrowed := true }
def BusOneUptoSaid : Prop := busOneUptoRow.holds Tryd.pinned (OpenSpec.upto busOneSpec)

/-- 'bargelocklaw2.ModeGoes', WHERE WHAT IT READS IS OF BULK AT MOST 1048576: true; the input reads as it did. -/
def modeGoesUptoRow : OpenClaim := { program := "ytbhjjbfhncfbdaadoor", sum := "64cab03d58c232a682be74d6047d9dd0b668493d46f31f8db115244b73364425", func := "bargelock/bargelocklaw2.ModeGoes", spec := "modeGoes", inPlace := ["internal/reflectlite.ValueOf", "(internal/reflectlite.Value).Type", "(internal/reflectlite.Value).IsNil", "internal/reflectlite.TypeOf", "(internal/reflectlite.Value).Elem", "(internal/reflectlite.Value).Set"], unfollowed := true, recurses := true, named := ["bargelock/api.ErrFull", "bargelock/api.ErrBound", "bargelock/api.ErrExist", "bargelock/api.ErrShape", "bargelock/api.ErrText", "bargelock/api.ErrNode", "bargelock/api.ErrNone", "bargelock/api.ErrSum", "bargelock/api.ErrLate", "bargelock/api.ErrGap", "bargelock/api.ErrOff", "errors.errorType"], plainKeys := false, apart := false, laid := [("errors.errorType", laid_errors_errorType), ("bargelock/api.ErrText", laid_bargelock_api_ErrText), ("bargelock/api.ErrBound", laid_bargelock_api_ErrBound), ("bargelock/api.ErrShape", laid_bargelock_api_ErrShape), ("bargelock/api.ErrNode", laid_bargelock_api_ErrNode), ("bargelock/api.ErrNone", laid_bargelock_api_ErrNone), ("bargelock/api.ErrExist", laid_bargelock_api_ErrExist), ("bargelock/api.ErrFull", laid_bargelock_api_ErrFull), ("bargelock/api.ErrSum", laid_bargelock_api_ErrSum), ("bargelock/api.ErrLate", laid_bargelock_api_ErrLate), ("bargelock/api.ErrGap", laid_bargelock_api_ErrGap), ("bargelock/api.ErrOff", laid_bargelock_api_ErrOff)], narrowed := true }
def ModeGoesUptoSaid : Prop := modeGoesUptoRow.holds Tryd.pinned (OpenSpec.upto modeGoesSpec)

/-- 'bargelocklaw1.GuardOne', WHERE WHAT IT READS IS OF BULK AT MOST 1048576: true; the input reads as it did. -/
def guardOneUptoRow : OpenClaim := { program := "ytbhjjbfhncfbdaadoor", sum := "64cab03d58c232a682be74d6047d9dd0b668493d46f31f8db115244b73364425", func := "bargelock/bargelocklaw1.GuardOne", spec := "guardOne", inPlace := ["internal/reflectlite.ValueOf", "(internal/reflectlite.Value).Type", "(internal/reflectlite.Value).IsNil", "internal/reflectlite.TypeOf", "(internal/reflectlite.Value).Elem", "(internal/reflectlite.Value).Set"], unfollowed := true, recurses := true, named := ["bargelock/api.ErrBound", "bargelock/api.ErrNone", "bargelock/api.ErrFull", "bargelock/api.ErrNode", "bargelock/api.ErrLate", "bargelock/api.ErrText", "bargelock/api.ErrShape", "bargelock/api.ErrExist", "bargelock/api.ErrSum", "bargelock/api.ErrGap", "bargelock/api.ErrOff", "errors.errorType"], plainKeys := false, apart := false, laid := [("errors.errorType", laid_errors_errorType), ("bargelock/api.ErrText", laid_bargelock_api_ErrText), ("bargelock/api.ErrBound", laid_bargelock_api_ErrBound), ("bargelock/api.ErrShape", laid_bargelock_api_ErrShape), ("bargelock/api.ErrNode", laid_bargelock_api_ErrNode), ("bargelock/api.ErrNone", laid_bargelock_api_ErrNone), ("bargelock/api.ErrExist", laid_bargelock_api_ErrExist), ("bargelock/api.ErrFull", laid_bargelock_api_ErrFull), ("bargelock/api.ErrSum", laid_bargelock_api_ErrSum), ("bargelock/api.ErrLate", laid_bargelock_api_ErrLate), ("bargelock/api.ErrGap", laid_bargelock_api_ErrGap), ("bargelock/api.ErrOff", laid_bargelock_api_ErrOff)], narrowed := true }
def GuardOneUptoSaid : Prop := guardOneUptoRow.holds Tryd.pinned (OpenSpec.upto guardOneSpec)

end Rows
end Go.Proofs.YtbhjjbfhncfbdaaDoor
