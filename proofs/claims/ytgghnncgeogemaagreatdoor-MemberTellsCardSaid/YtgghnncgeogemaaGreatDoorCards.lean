/-
  DERIVED. GIVEN WITH THE SEED: THE CARDS: each row of YtgghnncgeogemaaGreatDoorRows.lean that lists a variable, with what it lists TIED to the program's text (the seventh form; the later family's looks); each row that meets fmt, with fmt's text TOLD by the authors' own Lean function (tested against real Go, not proved from fmt's source: count such statements apart). THE CARD IS WHAT COUNTS. Prove the row's statement (the work); the ties are given (YtgghnncgeogemaaGreatDoorTie.lean); close each card by the builder's one call (the guide's Derived/Test/ToyasCard.lean, 'card_holds'). Laid BY PROGRAM, IN A SANDBOX (cutbox-door.mjs). By AI agents, Wed Nov 11 2026. No macro, syntax, notation, axiom, sorry.
-/
import Derived.Test.YtgghnncgeogemaaGreatDoorRows
import GoSem.ClaimSeven
namespace Go.Proofs.YtgghnncgeogemaaGreatDoor
namespace Rows

/-- THE TIED CARD OF 'bargelocklaw1.CrewTells'. -/
def crewTellsCard : Claim7 := { stood := { row := crewTellsRow, standIns := [], harness := (true, "30cacf405aedbd56e2918c95cfe45286fc2ca968ef3936b32232d962888291e0"), looks := true }, kinds := [], alts := [], laidByText := true, laidKinds := [.data, .data, .data, .data, .handle, .sentinel, .sentinel, .sentinel, .sentinel, .sentinel, .sentinel, .sentinel, .sentinel, .sentinel, .sentinel, .sentinel, .sentinel, .sentinel, .pinned], laidTests := true, laidLooks := .later }
def CrewTellsCardSaid : Prop := Claim7.holds Tryz.pinned (.plain (OpenSpec.ofChange crewTellsSpec)) crewTellsCard

/-- THE TIED CARD OF 'bargelocklaw2.MemberTells'. -/
def memberTellsCard : Claim7 := { stood := { row := memberTellsRow, standIns := [], harness := (true, "30cacf405aedbd56e2918c95cfe45286fc2ca968ef3936b32232d962888291e0"), looks := true }, kinds := [], alts := [], laidByText := true, laidKinds := [.data, .data, .data, .data, .handle, .sentinel, .sentinel, .sentinel, .sentinel, .sentinel, .sentinel, .sentinel, .sentinel, .sentinel, .sentinel, .sentinel, .sentinel, .sentinel, .pinned], laidTests := true, laidLooks := .later }
def MemberTellsCardSaid : Prop := Claim7.holds Tryz.pinned (.plain (OpenSpec.ofChange memberTellsSpec)) memberTellsCard

/-- THE SECOND FORM's CARD OF 'bargelocklaw1.CrewTells'. -/
def crewTellsUptoCard : Claim7 := { stood := { row := crewTellsUptoRow, standIns := [], harness := (true, "30cacf405aedbd56e2918c95cfe45286fc2ca968ef3936b32232d962888291e0"), looks := true }, kinds := [], alts := [], laidByText := true, laidKinds := [.data, .data, .data, .data, .handle, .sentinel, .sentinel, .sentinel, .sentinel, .sentinel, .sentinel, .sentinel, .sentinel, .sentinel, .sentinel, .sentinel, .sentinel, .sentinel, .pinned], laidTests := true, laidLooks := .later }
def CrewTellsUptoCardSaid : Prop := Claim7.holds Tryz.pinned (.plain (OpenSpec.upto crewTellsSpec)) crewTellsUptoCard

/-- THE SECOND FORM's CARD OF 'bargelocklaw2.MemberTells'. -/
def memberTellsUptoCard : Claim7 := { stood := { row := memberTellsUptoRow, standIns := [], harness := (true, "30cacf405aedbd56e2918c95cfe45286fc2ca968ef3936b32232d962888291e0"), looks := true }, kinds := [], alts := [], laidByText := true, laidKinds := [.data, .data, .data, .data, .handle, .sentinel, .sentinel, .sentinel, .sentinel, .sentinel, .sentinel, .sentinel, .sentinel, .sentinel, .sentinel, .sentinel, .sentinel, .sentinel, .pinned], laidTests := true, laidLooks := .later }
def MemberTellsUptoCardSaid : Prop := Claim7.holds Tryz.pinned (.plain (OpenSpec.upto memberTellsSpec)) memberTellsUptoCard
end Rows
end Go.Proofs.YtgghnncgeogemaaGreatDoor
