/-
  DERIVED. GIVEN WITH THE SEED: THE CARDS: each row of YtppfkokfnoeopaaGreatDoorRows.lean that lists a variable, with what it lists TIED to the program's text (the seventh form; the later family's looks); each row that meets fmt, with fmt's text TOLD by the authors' own Lean function (tested against real Go, not proved from fmt's source: count such statements apart). THE CARD IS WHAT COUNTS. Prove the row's statement (the work); the ties are given (YtppfkokfnoeopaaGreatDoorTie.lean); close each card by the builder's one call (the guide's Derived/Test/ToyasCard.lean, 'card_holds'). Laid BY PROGRAM, IN A SANDBOX (cutbox-door.mjs). By AI agents, Wed Nov 11 2026. No macro, syntax, notation, axiom, sorry.
-/
import Derived.Test.YtppfkokfnoeopaaGreatDoorRows
import GoSem.ClaimSeven
namespace Go.Proofs.YtppfkokfnoeopaaGreatDoor
namespace Rows

/-- THE TIED CARD OF 'bargelocklaw3.YardDoes'. -/
def yardDoesCard : Claim7 := { stood := { row := yardDoesRow, standIns := [], harness := (true, "a843348ea02882147b196c015c4ba026b0e6008d0573901d4e3ff01d77066496"), looks := true }, kinds := [], alts := [], laidByText := true, laidKinds := [.data, .data, .data, .data, .handle, .sentinel, .sentinel, .sentinel, .sentinel, .sentinel, .sentinel, .sentinel, .sentinel, .sentinel, .sentinel, .sentinel, .sentinel, .sentinel, .pinned], laidTests := true, laidLooks := .later }
def YardDoesCardSaid : Prop := Claim7.holds Tryz.pinned (.plain (OpenSpec.ofChange yardDoesSpec)) yardDoesCard

/-- THE TIED CARD OF 'bargelocklaw3.YardOpens'. -/
def yardOpensCard : Claim7 := { stood := { row := yardOpensRow, standIns := [], harness := (true, "a843348ea02882147b196c015c4ba026b0e6008d0573901d4e3ff01d77066496"), looks := true }, kinds := [], alts := [], laidByText := true, laidKinds := [.data, .data, .data, .data, .handle, .sentinel, .sentinel, .sentinel, .sentinel, .sentinel, .sentinel, .sentinel, .sentinel, .sentinel, .sentinel, .sentinel, .sentinel, .sentinel, .pinned], laidTests := true, laidLooks := .later }
def YardOpensCardSaid : Prop := Claim7.holds Tryz.pinned (.plain (OpenSpec.ofChange yardOpensSpec)) yardOpensCard

/-- THE TIED CARD OF 'bargelocklaw4.ScriptPlays'. -/
def scriptPlaysCard : Claim7 := { stood := { row := scriptPlaysRow, standIns := [], harness := (true, "a843348ea02882147b196c015c4ba026b0e6008d0573901d4e3ff01d77066496"), looks := true }, kinds := [], alts := [], laidByText := true, laidKinds := [.data, .data, .data, .data, .handle, .sentinel, .sentinel, .sentinel, .sentinel, .sentinel, .sentinel, .sentinel, .sentinel, .sentinel, .sentinel, .sentinel, .sentinel, .sentinel, .pinned], laidTests := true, laidLooks := .later }
def ScriptPlaysCardSaid : Prop := Claim7.holds Tryz.pinned (.plain (OpenSpec.ofChange scriptPlaysSpec)) scriptPlaysCard

/-- THE SECOND FORM's CARD OF 'bargelocklaw3.YardDoes'. -/
def yardDoesUptoCard : Claim7 := { stood := { row := yardDoesUptoRow, standIns := [], harness := (true, "a843348ea02882147b196c015c4ba026b0e6008d0573901d4e3ff01d77066496"), looks := true }, kinds := [], alts := [], laidByText := true, laidKinds := [.data, .data, .data, .data, .handle, .sentinel, .sentinel, .sentinel, .sentinel, .sentinel, .sentinel, .sentinel, .sentinel, .sentinel, .sentinel, .sentinel, .sentinel, .sentinel, .pinned], laidTests := true, laidLooks := .later }
def YardDoesUptoCardSaid : Prop := Claim7.holds Tryz.pinned (.plain (OpenSpec.upto yardDoesSpec)) yardDoesUptoCard

/-- THE SECOND FORM's CARD OF 'bargelocklaw3.YardOpens'. -/
def yardOpensUptoCard : Claim7 := { stood := { row := yardOpensUptoRow, standIns := [], harness := (true, "a843348ea02882147b196c015c4ba026b0e6008d0573901d4e3ff01d77066496"), looks := true }, kinds := [], alts := [], laidByText := true, laidKinds := [.data, .data, .data, .data, .handle, .sentinel, .sentinel, .sentinel, .sentinel, .sentinel, .sentinel, .sentinel, .sentinel, .sentinel, .sentinel, .sentinel, .sentinel, .sentinel, .pinned], laidTests := true, laidLooks := .later }
def YardOpensUptoCardSaid : Prop := Claim7.holds Tryz.pinned (.plain (OpenSpec.upto yardOpensSpec)) yardOpensUptoCard

/-- THE SECOND FORM's CARD OF 'bargelocklaw4.ScriptPlays'. -/
def scriptPlaysUptoCard : Claim7 := { stood := { row := scriptPlaysUptoRow, standIns := [], harness := (true, "a843348ea02882147b196c015c4ba026b0e6008d0573901d4e3ff01d77066496"), looks := true }, kinds := [], alts := [], laidByText := true, laidKinds := [.data, .data, .data, .data, .handle, .sentinel, .sentinel, .sentinel, .sentinel, .sentinel, .sentinel, .sentinel, .sentinel, .sentinel, .sentinel, .sentinel, .sentinel, .sentinel, .pinned], laidTests := true, laidLooks := .later }
def ScriptPlaysUptoCardSaid : Prop := Claim7.holds Tryz.pinned (.plain (OpenSpec.upto scriptPlaysSpec)) scriptPlaysUptoCard
end Rows
end Go.Proofs.YtppfkokfnoeopaaGreatDoor
