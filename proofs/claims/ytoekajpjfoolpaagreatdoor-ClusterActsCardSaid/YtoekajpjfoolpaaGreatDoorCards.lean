/-
  DERIVED. GIVEN WITH THE SEED: THE CARDS: each row of YtoekajpjfoolpaaGreatDoorRows.lean that lists a variable, with what it lists TIED to the program's text (the seventh form; the later family's looks); each row that meets fmt, with fmt's text TOLD by the authors' own Lean function (tested against real Go, not proved from fmt's source: count such statements apart). THE CARD IS WHAT COUNTS. Prove the row's statement (the work); the ties are given (YtoekajpjfoolpaaGreatDoorTie.lean); close each card by the builder's one call (the guide's Derived/Test/ToyasCard.lean, 'card_holds'). Laid BY PROGRAM, IN A SANDBOX (cutbox-door.mjs). By AI agents, Wed Nov 11 2026. No macro, syntax, notation, axiom, sorry.
-/
import Derived.Test.YtoekajpjfoolpaaGreatDoorRows
import GoSem.ClaimSeven
namespace Go.Proofs.YtoekajpjfoolpaaGreatDoor
namespace Rows

/-- THE TIED CARD OF 'bargelocklaw3.ClusterActs'. -/
def clusterActsCard : Claim7 := { stood := { row := clusterActsRow, standIns := [], harness := (true, "c52f89e39e991c830257bfeaff8094faec348e57ba55868335ec1bb1aae450a9"), looks := true }, kinds := [], alts := [], laidByText := true, laidKinds := [.data, .data, .data, .data, .handle, .sentinel, .sentinel, .sentinel, .sentinel, .sentinel, .sentinel, .sentinel, .sentinel, .sentinel, .sentinel, .sentinel, .sentinel, .sentinel, .pinned], laidTests := true, laidLooks := .later }
def ClusterActsCardSaid : Prop := Claim7.holds Tryz.pinned (.plain (OpenSpec.ofChange clusterActsSpec)) clusterActsCard

/-- THE TIED CARD OF 'bargelocklaw3.YardDoes'. -/
def yardDoesCard : Claim7 := { stood := { row := yardDoesRow, standIns := [], harness := (true, "c52f89e39e991c830257bfeaff8094faec348e57ba55868335ec1bb1aae450a9"), looks := true }, kinds := [], alts := [], laidByText := true, laidKinds := [.data, .data, .data, .data, .handle, .sentinel, .sentinel, .sentinel, .sentinel, .sentinel, .sentinel, .sentinel, .sentinel, .sentinel, .sentinel, .sentinel, .sentinel, .sentinel, .pinned], laidTests := true, laidLooks := .later }
def YardDoesCardSaid : Prop := Claim7.holds Tryz.pinned (.plain (OpenSpec.ofChange yardDoesSpec)) yardDoesCard

/-- THE TIED CARD OF 'bargelocklaw3.YardOpens'. -/
def yardOpensCard : Claim7 := { stood := { row := yardOpensRow, standIns := [], harness := (true, "c52f89e39e991c830257bfeaff8094faec348e57ba55868335ec1bb1aae450a9"), looks := true }, kinds := [], alts := [], laidByText := true, laidKinds := [.data, .data, .data, .data, .handle, .sentinel, .sentinel, .sentinel, .sentinel, .sentinel, .sentinel, .sentinel, .sentinel, .sentinel, .sentinel, .sentinel, .sentinel, .sentinel, .pinned], laidTests := true, laidLooks := .later }
def YardOpensCardSaid : Prop := Claim7.holds Tryz.pinned (.plain (OpenSpec.ofChange yardOpensSpec)) yardOpensCard

/-- THE TIED CARD OF 'bargelocklaw4.ScriptAnew'. -/
def scriptAnewCard : Claim7 := { stood := { row := scriptAnewRow, standIns := [], harness := (true, "c52f89e39e991c830257bfeaff8094faec348e57ba55868335ec1bb1aae450a9"), looks := true }, kinds := [], alts := [], laidByText := true, laidKinds := [.data, .data, .data, .data, .handle, .sentinel, .sentinel, .sentinel, .sentinel, .sentinel, .sentinel, .sentinel, .sentinel, .sentinel, .sentinel, .sentinel, .sentinel, .sentinel, .pinned], laidTests := true, laidLooks := .later }
def ScriptAnewCardSaid : Prop := Claim7.holds Tryz.pinned (.plain (OpenSpec.ofChange scriptAnewSpec)) scriptAnewCard

/-- THE TIED CARD OF 'bargelocklaw4.ScriptPlays'. -/
def scriptPlaysCard : Claim7 := { stood := { row := scriptPlaysRow, standIns := [], harness := (true, "c52f89e39e991c830257bfeaff8094faec348e57ba55868335ec1bb1aae450a9"), looks := true }, kinds := [], alts := [], laidByText := true, laidKinds := [.data, .data, .data, .data, .handle, .sentinel, .sentinel, .sentinel, .sentinel, .sentinel, .sentinel, .sentinel, .sentinel, .sentinel, .sentinel, .sentinel, .sentinel, .sentinel, .pinned], laidTests := true, laidLooks := .later }
def ScriptPlaysCardSaid : Prop := Claim7.holds Tryz.pinned (.plain (OpenSpec.ofChange scriptPlaysSpec)) scriptPlaysCard

/-- THE SECOND FORM's CARD OF 'bargelocklaw3.ClusterActs'. -/
def clusterActsUptoCard : Claim7 := { stood := { row := clusterActsUptoRow, standIns := [], harness := (true, "c52f89e39e991c830257bfeaff8094faec348e57ba55868335ec1bb1aae450a9"), looks := true }, kinds := [], alts := [], laidByText := true, laidKinds := [.data, .data, .data, .data, .handle, .sentinel, .sentinel, .sentinel, .sentinel, .sentinel, .sentinel, .sentinel, .sentinel, .sentinel, .sentinel, .sentinel, .sentinel, .sentinel, .pinned], laidTests := true, laidLooks := .later }
def ClusterActsUptoCardSaid : Prop := Claim7.holds Tryz.pinned (.plain (OpenSpec.upto clusterActsSpec)) clusterActsUptoCard

/-- THE SECOND FORM's CARD OF 'bargelocklaw3.YardDoes'. -/
def yardDoesUptoCard : Claim7 := { stood := { row := yardDoesUptoRow, standIns := [], harness := (true, "c52f89e39e991c830257bfeaff8094faec348e57ba55868335ec1bb1aae450a9"), looks := true }, kinds := [], alts := [], laidByText := true, laidKinds := [.data, .data, .data, .data, .handle, .sentinel, .sentinel, .sentinel, .sentinel, .sentinel, .sentinel, .sentinel, .sentinel, .sentinel, .sentinel, .sentinel, .sentinel, .sentinel, .pinned], laidTests := true, laidLooks := .later }
def YardDoesUptoCardSaid : Prop := Claim7.holds Tryz.pinned (.plain (OpenSpec.upto yardDoesSpec)) yardDoesUptoCard

/-- THE SECOND FORM's CARD OF 'bargelocklaw3.YardOpens'. -/
def yardOpensUptoCard : Claim7 := { stood := { row := yardOpensUptoRow, standIns := [], harness := (true, "c52f89e39e991c830257bfeaff8094faec348e57ba55868335ec1bb1aae450a9"), looks := true }, kinds := [], alts := [], laidByText := true, laidKinds := [.data, .data, .data, .data, .handle, .sentinel, .sentinel, .sentinel, .sentinel, .sentinel, .sentinel, .sentinel, .sentinel, .sentinel, .sentinel, .sentinel, .sentinel, .sentinel, .pinned], laidTests := true, laidLooks := .later }
def YardOpensUptoCardSaid : Prop := Claim7.holds Tryz.pinned (.plain (OpenSpec.upto yardOpensSpec)) yardOpensUptoCard

/-- THE SECOND FORM's CARD OF 'bargelocklaw4.ScriptAnew'. -/
def scriptAnewUptoCard : Claim7 := { stood := { row := scriptAnewUptoRow, standIns := [], harness := (true, "c52f89e39e991c830257bfeaff8094faec348e57ba55868335ec1bb1aae450a9"), looks := true }, kinds := [], alts := [], laidByText := true, laidKinds := [.data, .data, .data, .data, .handle, .sentinel, .sentinel, .sentinel, .sentinel, .sentinel, .sentinel, .sentinel, .sentinel, .sentinel, .sentinel, .sentinel, .sentinel, .sentinel, .pinned], laidTests := true, laidLooks := .later }
def ScriptAnewUptoCardSaid : Prop := Claim7.holds Tryz.pinned (.plain (OpenSpec.upto scriptAnewSpec)) scriptAnewUptoCard

/-- THE SECOND FORM's CARD OF 'bargelocklaw4.ScriptPlays'. -/
def scriptPlaysUptoCard : Claim7 := { stood := { row := scriptPlaysUptoRow, standIns := [], harness := (true, "c52f89e39e991c830257bfeaff8094faec348e57ba55868335ec1bb1aae450a9"), looks := true }, kinds := [], alts := [], laidByText := true, laidKinds := [.data, .data, .data, .data, .handle, .sentinel, .sentinel, .sentinel, .sentinel, .sentinel, .sentinel, .sentinel, .sentinel, .sentinel, .sentinel, .sentinel, .sentinel, .sentinel, .pinned], laidTests := true, laidLooks := .later }
def ScriptPlaysUptoCardSaid : Prop := Claim7.holds Tryz.pinned (.plain (OpenSpec.upto scriptPlaysSpec)) scriptPlaysUptoCard
end Rows
end Go.Proofs.YtoekajpjfoolpaaGreatDoor
