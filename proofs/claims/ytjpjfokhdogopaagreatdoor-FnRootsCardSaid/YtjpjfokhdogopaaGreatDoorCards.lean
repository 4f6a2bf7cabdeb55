/-
  DERIVED. GIVEN WITH THE SEED: THE CARDS: each row of YtjpjfokhdogopaaGreatDoorRows.lean that lists a variable, with what it lists TIED to the program's text (the seventh form; the later family's looks); each row that meets fmt, with fmt's text TOLD by the authors' own Lean function (tested against real Go, not proved from fmt's source: count such statements apart). THE CARD IS WHAT COUNTS. Prove the row's statement (the work); the ties are given (YtjpjfokhdogopaaGreatDoorTie.lean); close each card by the builder's one call (the guide's Derived/Test/ToyasCard.lean, 'card_holds'). Laid BY PROGRAM, IN A SANDBOX (cutbox-door.mjs). By AI agents, Wed Nov 11 2026. No macro, syntax, notation, axiom, sorry.
-/
import Derived.Test.YtjpjfokhdogopaaGreatDoorRows
import GoSem.ClaimSeven
namespace Go.Proofs.YtjpjfokhdogopaaGreatDoor
namespace Rows

/-- THE TIED CARD OF 'laws.FnExactReplicaOk'. -/
def fnExactReplicaOkCard : Claim7 := { stood := { row := fnExactReplicaOkRow, standIns := [], harness := (true, "dc3ca80a12817585a43b5ec534a47c8f4530d3f72e4f6959636919d60f5b8e66"), looks := true }, kinds := [], alts := [], laidByText := true, laidKinds := [.data, .data, .data], laidTests := true, laidLooks := .later }
def FnExactReplicaOkCardSaid : Prop := Claim7.holds Tryz.pinned (.plain (OpenSpec.ofChange fnExactReplicaOkSpec)) fnExactReplicaOkCard

/-- THE TIED CARD OF 'laws.FnExactSwitch'. -/
def fnExactSwitchCard : Claim7 := { stood := { row := fnExactSwitchRow, standIns := [], harness := (true, "dc3ca80a12817585a43b5ec534a47c8f4530d3f72e4f6959636919d60f5b8e66"), looks := true }, kinds := [], alts := [], laidByText := true, laidKinds := [.data, .data, .data, .sentinel, .sentinel], laidTests := true, laidLooks := .later }
def FnExactSwitchCardSaid : Prop := Claim7.holds Tryz.pinned (.plain (OpenSpec.ofChange fnExactSwitchSpec)) fnExactSwitchCard

/-- THE TIED CARD OF 'laws.FnRoots'. -/
def fnRootsCard : Claim7 := { stood := { row := fnRootsRow, standIns := [], harness := (true, "dc3ca80a12817585a43b5ec534a47c8f4530d3f72e4f6959636919d60f5b8e66"), looks := true }, kinds := [], alts := [], laidByText := true, laidKinds := [.data, .data, .data, .sentinel, .sentinel], laidTests := true, laidLooks := .later }
def FnRootsCardSaid : Prop := Claim7.holds Tryz.pinned (.plain (OpenSpec.ofChange fnRootsSpec)) fnRootsCard

/-- THE TIED CARD OF 'laws.FnExactClusterOk'. -/
def fnExactClusterOkCard : Claim7 := { stood := { row := fnExactClusterOkRow, standIns := [], harness := (true, "dc3ca80a12817585a43b5ec534a47c8f4530d3f72e4f6959636919d60f5b8e66"), looks := true }, kinds := [], alts := [], laidByText := true, laidKinds := [.data, .data, .data], laidTests := true, laidLooks := .later }
def FnExactClusterOkCardSaid : Prop := Claim7.holds Tryz.pinned (.plain (OpenSpec.ofChange fnExactClusterOkSpec)) fnExactClusterOkCard

/-- THE TIED CARD OF 'laws.FnMoved'. -/
def fnMovedCard : Claim7 := { stood := { row := fnMovedRow, standIns := [], harness := (true, "dc3ca80a12817585a43b5ec534a47c8f4530d3f72e4f6959636919d60f5b8e66"), looks := true }, kinds := [], alts := [], laidByText := true, laidKinds := [.data, .data, .data, .data, .sentinel, .sentinel, .pinned], laidTests := true, laidLooks := .later }
def FnMovedCardSaid : Prop := Claim7.holds Tryz.pinned (.plain (OpenSpec.ofChange fnMovedSpec)) fnMovedCard

/-- THE TIED CARD OF 'laws.FnExactChain'. -/
def fnExactChainCard : Claim7 := { stood := { row := fnExactChainRow, standIns := [], harness := (true, "dc3ca80a12817585a43b5ec534a47c8f4530d3f72e4f6959636919d60f5b8e66"), looks := true }, kinds := [], alts := [], laidByText := true, laidKinds := [.data, .data, .data], laidTests := true, laidLooks := .later }
def FnExactChainCardSaid : Prop := Claim7.holds Tryz.pinned (.plain (OpenSpec.ofChange fnExactChainSpec)) fnExactChainCard

/-- THE TIED CARD OF 'laws.FnExactApart'. -/
def fnExactApartCard : Claim7 := { stood := { row := fnExactApartRow, standIns := [], harness := (true, "dc3ca80a12817585a43b5ec534a47c8f4530d3f72e4f6959636919d60f5b8e66"), looks := true }, kinds := [], alts := [], laidByText := true, laidKinds := [.data, .data, .data], laidTests := true, laidLooks := .later }
def FnExactApartCardSaid : Prop := Claim7.holds Tryz.pinned (.plain (OpenSpec.ofChange fnExactApartSpec)) fnExactApartCard

/-- THE TIED CARD OF 'laws.FnExactAgreed'. -/
def fnExactAgreedCard : Claim7 := { stood := { row := fnExactAgreedRow, standIns := [], harness := (true, "dc3ca80a12817585a43b5ec534a47c8f4530d3f72e4f6959636919d60f5b8e66"), looks := true }, kinds := [], alts := [], laidByText := true, laidKinds := [.data, .data, .data], laidTests := true, laidLooks := .later }
def FnExactAgreedCardSaid : Prop := Claim7.holds Tryz.pinned (.plain (OpenSpec.ofChange fnExactAgreedSpec)) fnExactAgreedCard

/-- THE SECOND FORM's CARD OF 'laws.FnExactReplicaOk'. -/
def fnExactReplicaOkUptoCard : Claim7 := { stood := { row := fnExactReplicaOkUptoRow, standIns := [], harness := (true, "dc3ca80a12817585a43b5ec534a47c8f4530d3f72e4f6959636919d60f5b8e66"), looks := true }, kinds := [], alts := [], laidByText := true, laidKinds := [.data, .data, .data], laidTests := true, laidLooks := .later }
def FnExactReplicaOkUptoCardSaid : Prop := Claim7.holds Tryz.pinned (.plain (OpenSpec.upto fnExactReplicaOkSpec)) fnExactReplicaOkUptoCard

/-- THE SECOND FORM's CARD OF 'laws.FnExactSwitch'. -/
def fnExactSwitchUptoCard : Claim7 := { stood := { row := fnExactSwitchUptoRow, standIns := [], harness := (true, "dc3ca80a12817585a43b5ec534a47c8f4530d3f72e4f6959636919d60f5b8e66"), looks := true }, kinds := [], alts := [], laidByText := true, laidKinds := [.data, .data, .data, .sentinel, .sentinel], laidTests := true, laidLooks := .later }
def FnExactSwitchUptoCardSaid : Prop := Claim7.holds Tryz.pinned (.plain (OpenSpec.upto fnExactSwitchSpec)) fnExactSwitchUptoCard

/-- THE SECOND FORM's CARD OF 'laws.FnRoots'. -/
def fnRootsUptoCard : Claim7 := { stood := { row := fnRootsUptoRow, standIns := [], harness := (true, "dc3ca80a12817585a43b5ec534a47c8f4530d3f72e4f6959636919d60f5b8e66"), looks := true }, kinds := [], alts := [], laidByText := true, laidKinds := [.data, .data, .data, .sentinel, .sentinel], laidTests := true, laidLooks := .later }
def FnRootsUptoCardSaid : Prop := Claim7.holds Tryz.pinned (.plain (OpenSpec.upto fnRootsSpec)) fnRootsUptoCard

/-- THE SECOND FORM's CARD OF 'laws.FnExactClusterOk'. -/
def fnExactClusterOkUptoCard : Claim7 := { stood := { row := fnExactClusterOkUptoRow, standIns := [], harness := (true, "dc3ca80a12817585a43b5ec534a47c8f4530d3f72e4f6959636919d60f5b8e66"), looks := true }, kinds := [], alts := [], laidByText := true, laidKinds := [.data, .data, .data], laidTests := true, laidLooks := .later }
def FnExactClusterOkUptoCardSaid : Prop := Claim7.holds Tryz.pinned (.plain (OpenSpec.upto fnExactClusterOkSpec)) fnExactClusterOkUptoCard

/-- THE SECOND FORM's CARD OF 'laws.FnMoved'. -/
def fnMovedUptoCard : Claim7 := { stood := { row := fnMovedUptoRow, standIns := [], harness := (true, "dc3ca80a12817585a43b5ec534a47c8f4530d3f72e4f6959636919d60f5b8e66"), looks := true }, kinds := [], alts := [], laidByText := true, laidKinds := [.data, .data, .data, .data, .sentinel, .sentinel, .pinned], laidTests := true, laidLooks := .later }
def FnMovedUptoCardSaid : Prop := Claim7.holds Tryz.pinned (.plain (OpenSpec.upto fnMovedSpec)) fnMovedUptoCard

/-- THE SECOND FORM's CARD OF 'laws.FnExactChain'. -/
def fnExactChainUptoCard : Claim7 := { stood := { row := fnExactChainUptoRow, standIns := [], harness := (true, "dc3ca80a12817585a43b5ec534a47c8f4530d3f72e4f6959636919d60f5b8e66"), looks := true }, kinds := [], alts := [], laidByText := true, laidKinds := [.data, .data, .data], laidTests := true, laidLooks := .later }
def FnExactChainUptoCardSaid : Prop := Claim7.holds Tryz.pinned (.plain (OpenSpec.upto fnExactChainSpec)) fnExactChainUptoCard

/-- THE SECOND FORM's CARD OF 'laws.FnExactApart'. -/
def fnExactApartUptoCard : Claim7 := { stood := { row := fnExactApartUptoRow, standIns := [], harness := (true, "dc3ca80a12817585a43b5ec534a47c8f4530d3f72e4f6959636919d60f5b8e66"), looks := true }, kinds := [], alts := [], laidByText := true, laidKinds := [.data, .data, .data], laidTests := true, laidLooks := .later }
def FnExactApartUptoCardSaid : Prop := Claim7.holds Tryz.pinned (.plain (OpenSpec.upto fnExactApartSpec)) fnExactApartUptoCard

/-- THE SECOND FORM's CARD OF 'laws.FnExactAgreed'. -/
def fnExactAgreedUptoCard : Claim7 := { stood := { row := fnExactAgreedUptoRow, standIns := [], harness := (true, "dc3ca80a12817585a43b5ec534a47c8f4530d3f72e4f6959636919d60f5b8e66"), looks := true }, kinds := [], alts := [], laidByText := true, laidKinds := [.data, .data, .data], laidTests := true, laidLooks := .later }
def FnExactAgreedUptoCardSaid : Prop := Claim7.holds Tryz.pinned (.plain (OpenSpec.upto fnExactAgreedSpec)) fnExactAgreedUptoCard
end Rows
end Go.Proofs.YtjpjfokhdogopaaGreatDoor
