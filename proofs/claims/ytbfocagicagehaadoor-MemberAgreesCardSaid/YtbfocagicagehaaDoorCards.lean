/-
  DERIVED. GIVEN WITH THE SEED: THE CARDS: each row of YtbfocagicagehaaDoorRows.lean that lists a variable, with what it lists TIED to the program's text (the seventh form; the later family's looks); each row that meets fmt, with fmt's text TOLD by the authors' own Lean function (tested against real Go, not proved from fmt's source: count such statements apart). THE CARD IS WHAT COUNTS. Prove the row's statement (the work); the ties are given (YtbfocagicagehaaDoorTie.lean); close each card by the builder's one call (the guide's Derived/Test/ToyasCard.lean, 'card_holds'). Laid BY PROGRAM, IN A SANDBOX (cutbox-door.mjs). By AI agents, Wed Nov 11 2026. No macro, syntax, notation, axiom, sorry.
-/
import Derived.Test.YtbfocagicagehaaDoorRows
import GoSem.ClaimSeven
namespace Go.Proofs.YtbfocagicagehaaDoor
namespace Rows

/-- THE TIED CARD OF 'bargelocklaw2.FoldBack'. -/
def foldBackCard : Claim7 := { stood := { row := foldBackRow, standIns := [], harness := (true, "7c8696cbd88298e888e7e94e22c56e424eff6c40b6f5503a2ab11b674e9fefe4"), looks := true }, kinds := [], alts := [], laidByText := true, laidKinds := [.data, .data, .data, .data, .sentinel, .sentinel, .sentinel, .sentinel, .sentinel, .sentinel, .sentinel, .sentinel, .pinned], laidTests := true, laidLooks := .later }
def FoldBackCardSaid : Prop := Claim7.holds Tryd.pinned (.plain (OpenSpec.ofChange foldBackSpec)) foldBackCard

/-- THE TIED CARD OF 'bargelocklaw2.MemberAgrees'. -/
def memberAgreesCard : Claim7 := { stood := { row := memberAgreesRow, standIns := [], harness := (true, "7c8696cbd88298e888e7e94e22c56e424eff6c40b6f5503a2ab11b674e9fefe4"), looks := true }, kinds := [], alts := [], laidByText := true, laidKinds := [.data, .data, .data, .data, .sentinel, .sentinel, .sentinel, .sentinel, .sentinel, .sentinel, .sentinel, .sentinel, .sentinel, .sentinel, .pinned], laidTests := true, laidLooks := .later }
def MemberAgreesCardSaid : Prop := Claim7.holds Tryd.pinned (.plain (OpenSpec.ofChange memberAgreesSpec)) memberAgreesCard

/-- THE TIED CARD OF 'bargelocklaw2.MemberSlot'. -/
def memberSlotCard : Claim7 := { stood := { row := memberSlotRow, standIns := [], harness := (true, "7c8696cbd88298e888e7e94e22c56e424eff6c40b6f5503a2ab11b674e9fefe4"), looks := true }, kinds := [], alts := [], laidByText := true, laidKinds := [.data, .data, .data, .data, .sentinel, .sentinel, .sentinel, .sentinel, .sentinel, .sentinel, .sentinel, .sentinel, .sentinel, .sentinel, .pinned], laidTests := true, laidLooks := .later }
def MemberSlotCardSaid : Prop := Claim7.holds Tryd.pinned (.plain (OpenSpec.ofChange memberSlotSpec)) memberSlotCard

/-- THE SECOND FORM's CARD OF 'bargelocklaw2.FoldBack'. -/
def foldBackUptoCard : Claim7 := { stood := { row := foldBackUptoRow, standIns := [], harness := (true, "7c8696cbd88298e888e7e94e22c56e424eff6c40b6f5503a2ab11b674e9fefe4"), looks := true }, kinds := [], alts := [], laidByText := true, laidKinds := [.data, .data, .data, .data, .sentinel, .sentinel, .sentinel, .sentinel, .sentinel, .sentinel, .sentinel, .sentinel, .pinned], laidTests := true, laidLooks := .later }
def FoldBackUptoCardSaid : Prop := Claim7.holds Tryd.pinned (.plain (OpenSpec.upto foldBackSpec)) foldBackUptoCard

/-- THE SECOND FORM's CARD OF 'bargelocklaw2.MemberAgrees'. -/
def memberAgreesUptoCard : Claim7 := { stood := { row := memberAgreesUptoRow, standIns := [], harness := (true, "7c8696cbd88298e888e7e94e22c56e424eff6c40b6f5503a2ab11b674e9fefe4"), looks := true }, kinds := [], alts := [], laidByText := true, laidKinds := [.data, .data, .data, .data, .sentinel, .sentinel, .sentinel, .sentinel, .sentinel, .sentinel, .sentinel, .sentinel, .sentinel, .sentinel, .pinned], laidTests := true, laidLooks := .later }
def MemberAgreesUptoCardSaid : Prop := Claim7.holds Tryd.pinned (.plain (OpenSpec.upto memberAgreesSpec)) memberAgreesUptoCard

/-- THE SECOND FORM's CARD OF 'bargelocklaw2.MemberSlot'. -/
def memberSlotUptoCard : Claim7 := { stood := { row := memberSlotUptoRow, standIns := [], harness := (true, "7c8696cbd88298e888e7e94e22c56e424eff6c40b6f5503a2ab11b674e9fefe4"), looks := true }, kinds := [], alts := [], laidByText := true, laidKinds := [.data, .data, .data, .data, .sentinel, .sentinel, .sentinel, .sentinel, .sentinel, .sentinel, .sentinel, .sentinel, .sentinel, .sentinel, .pinned], laidTests := true, laidLooks := .later }
def MemberSlotUptoCardSaid : Prop := Claim7.holds Tryd.pinned (.plain (OpenSpec.upto memberSlotSpec)) memberSlotUptoCard
end Rows
end Go.Proofs.YtbfocagicagehaaDoor
