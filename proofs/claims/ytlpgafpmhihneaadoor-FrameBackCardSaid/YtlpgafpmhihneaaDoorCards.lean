/-
  DERIVED. GIVEN WITH THE SEED: THE CARDS: each row of YtlpgafpmhihneaaDoorRows.lean that lists a variable, with what it lists TIED to the program's text (the seventh form; the later family's looks); each row that meets fmt, with fmt's text TOLD by the authors' own Lean function (tested against real Go, not proved from fmt's source: count such statements apart). THE CARD IS WHAT COUNTS. Prove the row's statement (the work); the ties are given (YtlpgafpmhihneaaDoorTie.lean); close each card by the builder's one call (the guide's Derived/Test/ToyasCard.lean, 'card_holds'). Laid BY PROGRAM, IN A SANDBOX (cutbox-door.mjs). By AI agents, Wed Nov 11 2026. No macro, syntax, notation, axiom, sorry.
-/
import Derived.Test.YtlpgafpmhihneaaDoorRows
import GoSem.ClaimSeven
namespace Go.Proofs.YtlpgafpmhihneaaDoor
namespace Rows

/-- THE TIED CARD OF 'bargelocklaw1.ClockBetween'. -/
def clockBetweenCard : Claim7 := { stood := { row := clockBetweenRow, standIns := [], harness := (true, "24ea70b5c319aaf401efff66ffad113fcc324d0cb8e11e45cb836e5b6b663f2c"), looks := true }, kinds := [], alts := [], laidByText := true, laidKinds := [.sentinel], laidTests := true, laidLooks := .later }
def ClockBetweenCardSaid : Prop := Claim7.holds Tryd.pinned (.plain (OpenSpec.ofChange clockBetweenSpec)) clockBetweenCard

/-- THE TIED CARD OF 'bargelocklaw1.ClockHalves'. -/
def clockHalvesCard : Claim7 := { stood := { row := clockHalvesRow, standIns := [], harness := (true, "24ea70b5c319aaf401efff66ffad113fcc324d0cb8e11e45cb836e5b6b663f2c"), looks := true }, kinds := [], alts := [], laidByText := true, laidKinds := [.sentinel], laidTests := true, laidLooks := .later }
def ClockHalvesCardSaid : Prop := Claim7.holds Tryd.pinned (.plain (OpenSpec.ofChange clockHalvesSpec)) clockHalvesCard

/-- THE TIED CARD OF 'bargelocklaw1.ClockTells'. -/
def clockTellsCard : Claim7 := { stood := { row := clockTellsRow, standIns := [], harness := (true, "24ea70b5c319aaf401efff66ffad113fcc324d0cb8e11e45cb836e5b6b663f2c"), looks := true }, kinds := [], alts := [], laidByText := true, laidKinds := [.handle, .sentinel, .sentinel, .sentinel, .sentinel, .sentinel, .sentinel, .sentinel, .sentinel, .sentinel, .sentinel, .sentinel], laidTests := true, laidLooks := .later }
def ClockTellsCardSaid : Prop := Claim7.holds Tryd.pinned (.plain (OpenSpec.ofChange clockTellsSpec)) clockTellsCard

/-- THE TIED CARD OF 'bargelocklaw1.CrewParts'. -/
def crewPartsCard : Claim7 := { stood := { row := crewPartsRow, standIns := [], harness := (true, "24ea70b5c319aaf401efff66ffad113fcc324d0cb8e11e45cb836e5b6b663f2c"), looks := true }, kinds := [], alts := [], laidByText := true, laidKinds := [.data, .data, .data, .data, .sentinel, .sentinel, .sentinel, .sentinel, .sentinel, .pinned], laidTests := true, laidLooks := .later }
def CrewPartsCardSaid : Prop := Claim7.holds Tryd.pinned (.plain (OpenSpec.ofChange crewPartsSpec)) crewPartsCard

/-- THE TIED CARD OF 'bargelocklaw2.FoldBack'. -/
def foldBackCard : Claim7 := { stood := { row := foldBackRow, standIns := [], harness := (true, "24ea70b5c319aaf401efff66ffad113fcc324d0cb8e11e45cb836e5b6b663f2c"), looks := true }, kinds := [], alts := [], laidByText := true, laidKinds := [.data, .data, .data, .data, .sentinel, .sentinel, .sentinel, .sentinel, .sentinel, .sentinel, .sentinel, .sentinel, .pinned], laidTests := true, laidLooks := .later }
def FoldBackCardSaid : Prop := Claim7.holds Tryd.pinned (.plain (OpenSpec.ofChange foldBackSpec)) foldBackCard

/-- THE TIED CARD OF 'bargelocklaw1.FrameBack'. -/
def frameBackCard : Claim7 := { stood := { row := frameBackRow, standIns := [], harness := (true, "24ea70b5c319aaf401efff66ffad113fcc324d0cb8e11e45cb836e5b6b663f2c"), looks := true }, kinds := [], alts := [], laidByText := true, laidKinds := [.data, .data, .data, .data, .sentinel, .sentinel, .sentinel, .sentinel, .sentinel, .sentinel, .sentinel, .pinned], laidTests := true, laidLooks := .later }
def FrameBackCardSaid : Prop := Claim7.holds Tryd.pinned (.plain (OpenSpec.ofChange frameBackSpec)) frameBackCard

/-- THE SECOND FORM's CARD OF 'bargelocklaw1.ClockBetween'. -/
def clockBetweenUptoCard : Claim7 := { stood := { row := clockBetweenUptoRow, standIns := [], harness := (true, "24ea70b5c319aaf401efff66ffad113fcc324d0cb8e11e45cb836e5b6b663f2c"), looks := true }, kinds := [], alts := [], laidByText := true, laidKinds := [.sentinel], laidTests := true, laidLooks := .later }
def ClockBetweenUptoCardSaid : Prop := Claim7.holds Tryd.pinned (.plain (OpenSpec.upto clockBetweenSpec)) clockBetweenUptoCard

/-- THE SECOND FORM's CARD OF 'bargelocklaw1.ClockHalves'. -/
def clockHalvesUptoCard : Claim7 := { stood := { row := clockHalvesUptoRow, standIns := [], harness := (true, "24ea70b5c319aaf401efff66ffad113fcc324d0cb8e11e45cb836e5b6b663f2c"), looks := true }, kinds := [], alts := [], laidByText := true, laidKinds := [.sentinel], laidTests := true, laidLooks := .later }
def ClockHalvesUptoCardSaid : Prop := Claim7.holds Tryd.pinned (.plain (OpenSpec.upto clockHalvesSpec)) clockHalvesUptoCard

/-- THE SECOND FORM's CARD OF 'bargelocklaw1.ClockTells'. -/
def clockTellsUptoCard : Claim7 := { stood := { row := clockTellsUptoRow, standIns := [], harness := (true, "24ea70b5c319aaf401efff66ffad113fcc324d0cb8e11e45cb836e5b6b663f2c"), looks := true }, kinds := [], alts := [], laidByText := true, laidKinds := [.handle, .sentinel, .sentinel, .sentinel, .sentinel, .sentinel, .sentinel, .sentinel, .sentinel, .sentinel, .sentinel, .sentinel], laidTests := true, laidLooks := .later }
def ClockTellsUptoCardSaid : Prop := Claim7.holds Tryd.pinned (.plain (OpenSpec.upto clockTellsSpec)) clockTellsUptoCard

/-- THE SECOND FORM's CARD OF 'bargelocklaw1.CrewParts'. -/
def crewPartsUptoCard : Claim7 := { stood := { row := crewPartsUptoRow, standIns := [], harness := (true, "24ea70b5c319aaf401efff66ffad113fcc324d0cb8e11e45cb836e5b6b663f2c"), looks := true }, kinds := [], alts := [], laidByText := true, laidKinds := [.data, .data, .data, .data, .sentinel, .sentinel, .sentinel, .sentinel, .sentinel, .pinned], laidTests := true, laidLooks := .later }
def CrewPartsUptoCardSaid : Prop := Claim7.holds Tryd.pinned (.plain (OpenSpec.upto crewPartsSpec)) crewPartsUptoCard

/-- THE SECOND FORM's CARD OF 'bargelocklaw2.FoldBack'. -/
def foldBackUptoCard : Claim7 := { stood := { row := foldBackUptoRow, standIns := [], harness := (true, "24ea70b5c319aaf401efff66ffad113fcc324d0cb8e11e45cb836e5b6b663f2c"), looks := true }, kinds := [], alts := [], laidByText := true, laidKinds := [.data, .data, .data, .data, .sentinel, .sentinel, .sentinel, .sentinel, .sentinel, .sentinel, .sentinel, .sentinel, .pinned], laidTests := true, laidLooks := .later }
def FoldBackUptoCardSaid : Prop := Claim7.holds Tryd.pinned (.plain (OpenSpec.upto foldBackSpec)) foldBackUptoCard

/-- THE SECOND FORM's CARD OF 'bargelocklaw1.FrameBack'. -/
def frameBackUptoCard : Claim7 := { stood := { row := frameBackUptoRow, standIns := [], harness := (true, "24ea70b5c319aaf401efff66ffad113fcc324d0cb8e11e45cb836e5b6b663f2c"), looks := true }, kinds := [], alts := [], laidByText := true, laidKinds := [.data, .data, .data, .data, .sentinel, .sentinel, .sentinel, .sentinel, .sentinel, .sentinel, .sentinel, .pinned], laidTests := true, laidLooks := .later }
def FrameBackUptoCardSaid : Prop := Claim7.holds Tryd.pinned (.plain (OpenSpec.upto frameBackSpec)) frameBackUptoCard
end Rows
end Go.Proofs.YtlpgafpmhihneaaDoor
