/-
  DERIVED. GIVEN WITH THE SEED: THE CARDS: each row of YtbhjjbfhncfbdaaDoorRows.lean that lists a variable, with what it lists TIED to the program's text (the seventh form; the later family's looks); each row that meets fmt, with fmt's text TOLD by the authors' own Lean function (tested against real Go, not proved from fmt's source: count such statements apart). THE CARD IS WHAT COUNTS. Prove the row's statement (the work); the ties are given (YtbhjjbfhncfbdaaDoorTie.lean); close each card by the builder's one call (the guide's Derived/Test/ToyasCard.lean, 'card_holds'). Laid BY PROGRAM, IN A SANDBOX (cutbox-door.mjs). By AI agents, Wed Nov 11 2026. No macro, syntax, notation, axiom, sorry.
-/
import Derived.Test.YtbhjjbfhncfbdaaDoorRows
import GoSem.ClaimSeven
namespace Go.Proofs.YtbhjjbfhncfbdaaDoor
namespace Rows

/-- THE TIED CARD OF 'bargelocklaw2.CliqueOne'. -/
def cliqueOneCard : Claim7 := { stood := { row := cliqueOneRow, standIns := [], harness := (true, "3754be347004ea17710c0978622a8020fd83c32c3948afc6c866b0d02441e378"), looks := true }, kinds := [], alts := [], laidByText := true, laidKinds := [.sentinel, .sentinel, .sentinel, .sentinel, .sentinel], laidTests := true, laidLooks := .later }
def CliqueOneCardSaid : Prop := Claim7.holds Tryd.pinned (.plain (OpenSpec.ofChange cliqueOneSpec)) cliqueOneCard

/-- THE TIED CARD OF 'bargelocklaw1.PlanWaits'. -/
def planWaitsCard : Claim7 := { stood := { row := planWaitsRow, standIns := [], harness := (true, "3754be347004ea17710c0978622a8020fd83c32c3948afc6c866b0d02441e378"), looks := true }, kinds := [], alts := [], laidByText := true, laidKinds := [.sentinel, .sentinel, .sentinel, .sentinel], laidTests := true, laidLooks := .later }
def PlanWaitsCardSaid : Prop := Claim7.holds Tryd.pinned (.plain (OpenSpec.ofChange planWaitsSpec)) planWaitsCard

/-- THE TIED CARD OF 'bargelocklaw2.DeltaWhole'. -/
def deltaWholeCard : Claim7 := { stood := { row := deltaWholeRow, standIns := [], harness := (true, "3754be347004ea17710c0978622a8020fd83c32c3948afc6c866b0d02441e378"), looks := true }, kinds := [], alts := [], laidByText := true, laidKinds := [.sentinel, .sentinel, .sentinel, .sentinel, .sentinel], laidTests := true, laidLooks := .later }
def DeltaWholeCardSaid : Prop := Claim7.holds Tryd.pinned (.plain (OpenSpec.ofChange deltaWholeSpec)) deltaWholeCard

/-- THE TIED CARD OF 'bargelocklaw2.BusOne'. -/
def busOneCard : Claim7 := { stood := { row := busOneRow, standIns := [], harness := (true, "3754be347004ea17710c0978622a8020fd83c32c3948afc6c866b0d02441e378"), looks := true }, kinds := [], alts := [], laidByText := true, laidKinds := [.sentinel, .sentinel, .sentinel, .sentinel, .sentinel], laidTests := true, laidLooks := .later }
def BusOneCardSaid : Prop := Claim7.holds Tryd.pinned (.plain (OpenSpec.ofChange busOneSpec)) busOneCard

/-- THE TIED CARD OF 'bargelocklaw2.ModeGoes'. -/
def modeGoesCard : Claim7 := { stood := { row := modeGoesRow, standIns := [], harness := (true, "3754be347004ea17710c0978622a8020fd83c32c3948afc6c866b0d02441e378"), looks := true }, kinds := [], alts := [], laidByText := true, laidKinds := [.handle, .sentinel, .sentinel, .sentinel, .sentinel, .sentinel, .sentinel, .sentinel, .sentinel, .sentinel, .sentinel, .sentinel], laidTests := true, laidLooks := .later }
def ModeGoesCardSaid : Prop := Claim7.holds Tryd.pinned (.plain (OpenSpec.ofChange modeGoesSpec)) modeGoesCard

/-- THE TIED CARD OF 'bargelocklaw1.GuardOne'. -/
def guardOneCard : Claim7 := { stood := { row := guardOneRow, standIns := [], harness := (true, "3754be347004ea17710c0978622a8020fd83c32c3948afc6c866b0d02441e378"), looks := true }, kinds := [], alts := [], laidByText := true, laidKinds := [.handle, .sentinel, .sentinel, .sentinel, .sentinel, .sentinel, .sentinel, .sentinel, .sentinel, .sentinel, .sentinel, .sentinel], laidTests := true, laidLooks := .later }
def GuardOneCardSaid : Prop := Claim7.holds Tryd.pinned (.plain (OpenSpec.ofChange guardOneSpec)) guardOneCard

/-- THE SECOND FORM's CARD OF 'bargelocklaw2.CliqueOne'. -/
def cliqueOneUptoCard : Claim7 := { stood := { row := cliqueOneUptoRow, standIns := [], harness := (true, "3754be347004ea17710c0978622a8020fd83c32c3948afc6c866b0d02441e378"), looks := true }, kinds := [], alts := [], laidByText := true, laidKinds := [.sentinel, .sentinel, .sentinel, .sentinel, .sentinel], laidTests := true, laidLooks := .later }
def CliqueOneUptoCardSaid : Prop := Claim7.holds Tryd.pinned (.plain (OpenSpec.upto cliqueOneSpec)) cliqueOneUptoCard

/-- THE SECOND FORM's CARD OF 'bargelocklaw1.PlanWaits'. -/
def planWaitsUptoCard : Claim7 := { stood := { row := planWaitsUptoRow, standIns := [], harness := (true, "3754be347004ea17710c0978622a8020fd83c32c3948afc6c866b0d02441e378"), looks := true }, kinds := [], alts := [], laidByText := true, laidKinds := [.sentinel, .sentinel, .sentinel, .sentinel], laidTests := true, laidLooks := .later }
def PlanWaitsUptoCardSaid : Prop := Claim7.holds Tryd.pinned (.plain (OpenSpec.upto planWaitsSpec)) planWaitsUptoCard

/-- THE SECOND FORM's CARD OF 'bargelocklaw2.DeltaWhole'. -/
def deltaWholeUptoCard : Claim7 := { stood := { row := deltaWholeUptoRow, standIns := [], harness := (true, "3754be347004ea17710c0978622a8020fd83c32c3948afc6c866b0d02441e378"), looks := true }, kinds := [], alts := [], laidByText := true, laidKinds := [.sentinel, .sentinel, .sentinel, .sentinel, .sentinel], laidTests := true, laidLooks := .later }
def DeltaWholeUptoCardSaid : Prop := Claim7.holds Tryd.pinned (.plain (OpenSpec.upto deltaWholeSpec)) deltaWholeUptoCard

/-- THE SECOND FORM's CARD OF 'bargelocklaw2.BusOne'. -/
def busOneUptoCard : Claim7 := { stood := { row := busOneUptoRow, standIns := [], harness := (true, "3754be347004ea17710c0978622a8020fd83c32c3948afc6c866b0d02441e378"), looks := true }, kinds := [], alts := [], laidByText := true, laidKinds := [.sentinel, .sentinel, .sentinel, .sentinel, .sentinel], laidTests := true, laidLooks := .later }
def BusOneUptoCardSaid : Prop := Claim7.holds Tryd.pinned (.plain (OpenSpec.upto busOneSpec)) busOneUptoCard

/-- THE SECOND FORM's CARD OF 'bargelocklaw2.ModeGoes'. -/
def modeGoesUptoCard : Claim7 := { stood := { row := modeGoesUptoRow, standIns := [], harness := (true, "3754be347004ea17710c0978622a8020fd83c32c3948afc6c866b0d02441e378"), looks := true }, kinds := [], alts := [], laidByText := true, laidKinds := [.handle, .sentinel, .sentinel, .sentinel, .sentinel, .sentinel, .sentinel, .sentinel, .sentinel, .sentinel, .sentinel, .sentinel], laidTests := true, laidLooks := .later }
def ModeGoesUptoCardSaid : Prop := Claim7.holds Tryd.pinned (.plain (OpenSpec.upto modeGoesSpec)) modeGoesUptoCard

/-- THE SECOND FORM's CARD OF 'bargelocklaw1.GuardOne'. -/
def guardOneUptoCard : Claim7 := { stood := { row := guardOneUptoRow, standIns := [], harness := (true, "3754be347004ea17710c0978622a8020fd83c32c3948afc6c866b0d02441e378"), looks := true }, kinds := [], alts := [], laidByText := true, laidKinds := [.handle, .sentinel, .sentinel, .sentinel, .sentinel, .sentinel, .sentinel, .sentinel, .sentinel, .sentinel, .sentinel, .sentinel], laidTests := true, laidLooks := .later }
def GuardOneUptoCardSaid : Prop := Claim7.holds Tryd.pinned (.plain (OpenSpec.upto guardOneSpec)) guardOneUptoCard
end Rows
end Go.Proofs.YtbhjjbfhncfbdaaDoor
