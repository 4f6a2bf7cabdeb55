/-
  DERIVED. GIVEN WITH THE SEED: THE CARDS: each row of YtbpjfoaafgmeaaaGreatDoorRows.lean that lists a variable, with what it lists TIED to the program's text (the seventh form; the later family's looks); each row that meets fmt, with fmt's text TOLD by the authors' own Lean function (tested against real Go, not proved from fmt's source: count such statements apart). THE CARD IS WHAT COUNTS. Prove the row's statement (the work); the ties are given (YtbpjfoaafgmeaaaGreatDoorTie.lean); close each card by the builder's one call (the guide's Derived/Test/ToyasCard.lean, 'card_holds'). Laid BY PROGRAM, IN A SANDBOX (cutbox-door.mjs). By AI agents, Wed Nov 11 2026. No macro, syntax, notation, axiom, sorry.
-/
import Derived.Test.YtbpjfoaafgmeaaaGreatDoorRows
import GoSem.ClaimSeven
namespace Go.Proofs.YtbpjfoaafgmeaaaGreatDoor
namespace Rows

/-- THE TIED CARD OF 'laws.FnExactReplicaOk'. -/
def fnExactReplicaOkCard : Claim7 := { stood := { row := fnExactReplicaOkRow, standIns := [], harness := (true, "2982f788ef2a00725ccb9868924f7728606b20c334320e59c45eecb69e6b62bb"), looks := false }, kinds := [], alts := [], laidByText := true, laidKinds := [.data, .data, .data], laidTests := true, laidLooks := .later }
def FnExactReplicaOkCardSaid : Prop := Claim7.holds Tryz.pinned (.plain (OpenSpec.ofChange fnExactReplicaOkSpec)) fnExactReplicaOkCard

/-- THE TIED CARD OF 'laws.FnExactClusterOk'. -/
def fnExactClusterOkCard : Claim7 := { stood := { row := fnExactClusterOkRow, standIns := [], harness := (true, "2982f788ef2a00725ccb9868924f7728606b20c334320e59c45eecb69e6b62bb"), looks := false }, kinds := [], alts := [], laidByText := true, laidKinds := [.data, .data, .data], laidTests := true, laidLooks := .later }
def FnExactClusterOkCardSaid : Prop := Claim7.holds Tryz.pinned (.plain (OpenSpec.ofChange fnExactClusterOkSpec)) fnExactClusterOkCard

/-- THE TIED CARD OF 'laws.FnExactChain'. -/
def fnExactChainCard : Claim7 := { stood := { row := fnExactChainRow, standIns := [], harness := (true, "2982f788ef2a00725ccb9868924f7728606b20c334320e59c45eecb69e6b62bb"), looks := false }, kinds := [], alts := [], laidByText := true, laidKinds := [.data, .data, .data], laidTests := true, laidLooks := .later }
def FnExactChainCardSaid : Prop := Claim7.holds Tryz.pinned (.plain (OpenSpec.ofChange fnExactChainSpec)) fnExactChainCard

/-- THE TIED CARD OF 'laws.FnExactApart'. -/
def fnExactApartCard : Claim7 := { stood := { row := fnExactApartRow, standIns := [], harness := (true, "2982f788ef2a00725ccb9868924f7728606b20c334320e59c45eecb69e6b62bb"), looks := false }, kinds := [], alts := [], laidByText := true, laidKinds := [.data, .data, .data], laidTests := true, laidLooks := .later }
def FnExactApartCardSaid : Prop := Claim7.holds Tryz.pinned (.plain (OpenSpec.ofChange fnExactApartSpec)) fnExactApartCard

/-- THE TIED CARD OF 'laws.FnExactAgreed'. -/
def fnExactAgreedCard : Claim7 := { stood := { row := fnExactAgreedRow, standIns := [], harness := (true, "2982f788ef2a00725ccb9868924f7728606b20c334320e59c45eecb69e6b62bb"), looks := false }, kinds := [], alts := [], laidByText := true, laidKinds := [.data, .data, .data], laidTests := true, laidLooks := .later }
def FnExactAgreedCardSaid : Prop := Claim7.holds Tryz.pinned (.plain (OpenSpec.ofChange fnExactAgreedSpec)) fnExactAgreedCard

/-- THE TIED CARD OF 'laws.FnExactRestart'. -/
def fnExactRestartCard : Claim7 := { stood := { row := fnExactRestartRow, standIns := [], harness := (true, "2982f788ef2a00725ccb9868924f7728606b20c334320e59c45eecb69e6b62bb"), looks := false }, kinds := [], alts := [], laidByText := true, laidKinds := [.data, .data, .data], laidTests := true, laidLooks := .later }
def FnExactRestartCardSaid : Prop := Claim7.holds Tryz.pinned (.plain (OpenSpec.ofChange fnExactRestartSpec)) fnExactRestartCard

/-- THE SECOND FORM's CARD OF 'laws.FnExactReplicaOk'. -/
def fnExactReplicaOkUptoCard : Claim7 := { stood := { row := fnExactReplicaOkUptoRow, standIns := [], harness := (true, "2982f788ef2a00725ccb9868924f7728606b20c334320e59c45eecb69e6b62bb"), looks := false }, kinds := [], alts := [], laidByText := true, laidKinds := [.data, .data, .data], laidTests := true, laidLooks := .later }
def FnExactReplicaOkUptoCardSaid : Prop := Claim7.holds Tryz.pinned (.plain (OpenSpec.upto fnExactReplicaOkSpec)) fnExactReplicaOkUptoCard

/-- THE SECOND FORM's CARD OF 'laws.FnExactClusterOk'. -/
def fnExactClusterOkUptoCard : Claim7 := { stood := { row := fnExactClusterOkUptoRow, standIns := [], harness := (true, "2982f788ef2a00725ccb9868924f7728606b20c334320e59c45eecb69e6b62bb"), looks := false }, kinds := [], alts := [], laidByText := true, laidKinds := [.data, .data, .data], laidTests := true, laidLooks := .later }
def FnExactClusterOkUptoCardSaid : Prop := Claim7.holds Tryz.pinned (.plain (OpenSpec.upto fnExactClusterOkSpec)) fnExactClusterOkUptoCard

/-- THE SECOND FORM's CARD OF 'laws.FnExactChain'. -/
def fnExactChainUptoCard : Claim7 := { stood := { row := fnExactChainUptoRow, standIns := [], harness := (true, "2982f788ef2a00725ccb9868924f7728606b20c334320e59c45eecb69e6b62bb"), looks := false }, kinds := [], alts := [], laidByText := true, laidKinds := [.data, .data, .data], laidTests := true, laidLooks := .later }
def FnExactChainUptoCardSaid : Prop := Claim7.holds Tryz.pinned (.plain (OpenSpec.upto fnExactChainSpec)) fnExactChainUptoCard

/-- THE SECOND FORM's CARD OF 'laws.FnExactApart'. -/
def fnExactApartUptoCard : Claim7 := { stood := { row := fnExactApartUptoRow, standIns := [], harness := (true, "2982f788ef2a00725ccb9868924f7728606b20c334320e59c45eecb69e6b62bb"), looks := false }, kinds := [], alts := [], laidByText := true, laidKinds := [.data, .data, .data], laidTests := true, laidLooks := .later }
def FnExactApartUptoCardSaid : Prop := Claim7.holds Tryz.pinned (.plain (OpenSpec.upto fnExactApartSpec)) fnExactApartUptoCard

/-- THE SECOND FORM's CARD OF 'laws.FnExactAgreed'. -/
def fnExactAgreedUptoCard : Claim7 := { stood := { row := fnExactAgreedUptoRow, standIns := [], harness := (true, "2982f788ef2a00725ccb9868924f7728606b20c334320e59c45eecb69e6b62bb"), looks := false }, kinds := [], alts := [], laidByText := true, laidKinds := [.data, .data, .data], laidTests := true, laidLooks := .later }
def FnExactAgreedUptoCardSaid : Prop := Claim7.holds Tryz.pinned (.plain (OpenSpec.upto fnExactAgreedSpec)) fnExactAgreedUptoCard

/-- THE SECOND FORM's CARD OF 'laws.FnExactRestart'. -/
def fnExactRestartUptoCard : Claim7 := { stood := { row := fnExactRestartUptoRow, standIns := [], harness := (true, "2982f788ef2a00725ccb9868924f7728606b20c334320e59c45eecb69e6b62bb"), looks := false }, kinds := [], alts := [], laidByText := true, laidKinds := [.data, .data, .data], laidTests := true, laidLooks := .later }
def FnExactRestartUptoCardSaid : Prop := Claim7.holds Tryz.pinned (.plain (OpenSpec.upto fnExactRestartSpec)) fnExactRestartUptoCard
end Rows
end Go.Proofs.YtbpjfoaafgmeaaaGreatDoor
