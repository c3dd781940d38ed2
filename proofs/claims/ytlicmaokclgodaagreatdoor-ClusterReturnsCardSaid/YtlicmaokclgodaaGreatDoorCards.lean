/-
  DERIVED. GIVEN WITH THE SEED: THE CARDS: each row of YtlicmaokclgodaaGreatDoorRows.lean that lists a variable, with what it lists TIED to the program's text (the seventh form; the later family's looks); each row that meets fmt, with fmt's text TOLD by the authors' own Lean function (tested against real Go, not proved from fmt's source: count such statements apart). THE CARD IS WHAT COUNTS. Prove the row's statement (the work); the ties are given (YtlicmaokclgodaaGreatDoorTie.lean); close each card by the builder's one call (the guide's Derived/Test/ToyasCard.lean, 'card_holds'). Laid BY PROGRAM, IN A SANDBOX (cutbox-door.mjs). By AI agents, Wed Nov 11 2026. No macro, syntax, notation, axiom, sorry.
-/
import Derived.Test.YtlicmaokclgodaaGreatDoorRows
import GoSem.ClaimSeven
namespace Go.Proofs.YtlicmaokclgodaaGreatDoor
namespace Rows

/-- THE TIED CARD OF 'bargelocklaw3.ClusterAgrees'. -/
def clusterAgreesCard : Claim7 := { stood := { row := clusterAgreesRow, standIns := [], harness := (true, "a92255b6d1f5b25648c053c66d1119fe67eb2341165e6698975b8ee87f24a1e7"), looks := true }, kinds := [], alts := [], laidByText := true, laidKinds := [.data, .data, .data, .data, .sentinel, .sentinel, .sentinel, .sentinel, .sentinel, .sentinel, .sentinel, .sentinel, .sentinel, .sentinel, .sentinel, .sentinel, .sentinel, .pinned], laidTests := true, laidLooks := .later }
def ClusterAgreesCardSaid : Prop := Claim7.holds Tryz.pinned (.plain (OpenSpec.ofChange clusterAgreesSpec)) clusterAgreesCard

/-- THE TIED CARD OF 'bargelocklaw3.ClusterSafe'. -/
def clusterSafeCard : Claim7 := { stood := { row := clusterSafeRow, standIns := [], harness := (true, "a92255b6d1f5b25648c053c66d1119fe67eb2341165e6698975b8ee87f24a1e7"), looks := true }, kinds := [], alts := [], laidByText := true, laidKinds := [.data, .data, .data, .data, .sentinel, .sentinel, .sentinel, .sentinel, .sentinel, .sentinel, .sentinel, .sentinel, .sentinel, .sentinel, .sentinel, .sentinel, .sentinel, .pinned], laidTests := true, laidLooks := .later }
def ClusterSafeCardSaid : Prop := Claim7.holds Tryz.pinned (.plain (OpenSpec.ofChange clusterSafeSpec)) clusterSafeCard

/-- THE TIED CARD OF 'bargelocklaw3.ClusterReturns'. -/
def clusterReturnsCard : Claim7 := { stood := { row := clusterReturnsRow, standIns := [], harness := (true, "a92255b6d1f5b25648c053c66d1119fe67eb2341165e6698975b8ee87f24a1e7"), looks := true }, kinds := [], alts := [], laidByText := true, laidKinds := [.data, .data, .data, .data, .handle, .sentinel, .sentinel, .sentinel, .sentinel, .sentinel, .sentinel, .sentinel, .sentinel, .sentinel, .sentinel, .sentinel, .sentinel, .sentinel, .pinned], laidTests := true, laidLooks := .later }
def ClusterReturnsCardSaid : Prop := Claim7.holds Tryz.pinned (.plain (OpenSpec.ofChange clusterReturnsSpec)) clusterReturnsCard

/-- THE TIED CARD OF 'bargelocklaw3.ClusterActs'. -/
def clusterActsCard : Claim7 := { stood := { row := clusterActsRow, standIns := [], harness := (true, "a92255b6d1f5b25648c053c66d1119fe67eb2341165e6698975b8ee87f24a1e7"), looks := true }, kinds := [], alts := [], laidByText := true, laidKinds := [.data, .data, .data, .data, .handle, .sentinel, .sentinel, .sentinel, .sentinel, .sentinel, .sentinel, .sentinel, .sentinel, .sentinel, .sentinel, .sentinel, .sentinel, .sentinel, .pinned], laidTests := true, laidLooks := .later }
def ClusterActsCardSaid : Prop := Claim7.holds Tryz.pinned (.plain (OpenSpec.ofChange clusterActsSpec)) clusterActsCard

/-- THE SECOND FORM's CARD OF 'bargelocklaw3.ClusterAgrees'. -/
def clusterAgreesUptoCard : Claim7 := { stood := { row := clusterAgreesUptoRow, standIns := [], harness := (true, "a92255b6d1f5b25648c053c66d1119fe67eb2341165e6698975b8ee87f24a1e7"), looks := true }, kinds := [], alts := [], laidByText := true, laidKinds := [.data, .data, .data, .data, .sentinel, .sentinel, .sentinel, .sentinel, .sentinel, .sentinel, .sentinel, .sentinel, .sentinel, .sentinel, .sentinel, .sentinel, .sentinel, .pinned], laidTests := true, laidLooks := .later }
def ClusterAgreesUptoCardSaid : Prop := Claim7.holds Tryz.pinned (.plain (OpenSpec.upto clusterAgreesSpec)) clusterAgreesUptoCard

/-- THE SECOND FORM's CARD OF 'bargelocklaw3.ClusterSafe'. -/
def clusterSafeUptoCard : Claim7 := { stood := { row := clusterSafeUptoRow, standIns := [], harness := (true, "a92255b6d1f5b25648c053c66d1119fe67eb2341165e6698975b8ee87f24a1e7"), looks := true }, kinds := [], alts := [], laidByText := true, laidKinds := [.data, .data, .data, .data, .sentinel, .sentinel, .sentinel, .sentinel, .sentinel, .sentinel, .sentinel, .sentinel, .sentinel, .sentinel, .sentinel, .sentinel, .sentinel, .pinned], laidTests := true, laidLooks := .later }
def ClusterSafeUptoCardSaid : Prop := Claim7.holds Tryz.pinned (.plain (OpenSpec.upto clusterSafeSpec)) clusterSafeUptoCard

/-- THE SECOND FORM's CARD OF 'bargelocklaw3.ClusterReturns'. -/
def clusterReturnsUptoCard : Claim7 := { stood := { row := clusterReturnsUptoRow, standIns := [], harness := (true, "a92255b6d1f5b25648c053c66d1119fe67eb2341165e6698975b8ee87f24a1e7"), looks := true }, kinds := [], alts := [], laidByText := true, laidKinds := [.data, .data, .data, .data, .handle, .sentinel, .sentinel, .sentinel, .sentinel, .sentinel, .sentinel, .sentinel, .sentinel, .sentinel, .sentinel, .sentinel, .sentinel, .sentinel, .pinned], laidTests := true, laidLooks := .later }
def ClusterReturnsUptoCardSaid : Prop := Claim7.holds Tryz.pinned (.plain (OpenSpec.upto clusterReturnsSpec)) clusterReturnsUptoCard

/-- THE SECOND FORM's CARD OF 'bargelocklaw3.ClusterActs'. -/
def clusterActsUptoCard : Claim7 := { stood := { row := clusterActsUptoRow, standIns := [], harness := (true, "a92255b6d1f5b25648c053c66d1119fe67eb2341165e6698975b8ee87f24a1e7"), looks := true }, kinds := [], alts := [], laidByText := true, laidKinds := [.data, .data, .data, .data, .handle, .sentinel, .sentinel, .sentinel, .sentinel, .sentinel, .sentinel, .sentinel, .sentinel, .sentinel, .sentinel, .sentinel, .sentinel, .sentinel, .pinned], laidTests := true, laidLooks := .later }
def ClusterActsUptoCardSaid : Prop := Claim7.holds Tryz.pinned (.plain (OpenSpec.upto clusterActsSpec)) clusterActsUptoCard
end Rows
end Go.Proofs.YtlicmaokclgodaaGreatDoor
