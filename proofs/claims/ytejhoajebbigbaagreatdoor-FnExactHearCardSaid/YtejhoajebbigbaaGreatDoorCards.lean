/-
  DERIVED. GIVEN WITH THE SEED: THE CARDS: each row of YtejhoajebbigbaaGreatDoorRows.lean that lists a variable, with what it lists TIED to the program's text (the seventh form; the later family's looks); each row that meets fmt, with fmt's text TOLD by the authors' own Lean function (tested against real Go, not proved from fmt's source: count such statements apart). THE CARD IS WHAT COUNTS. Prove the row's statement (the work); the ties are given (YtejhoajebbigbaaGreatDoorTie.lean); close each card by the builder's one call (the guide's Derived/Test/ToyasCard.lean, 'card_holds'). Laid BY PROGRAM, IN A SANDBOX (cutbox-door.mjs). By AI agents, Wed Nov 11 2026. No macro, syntax, notation, axiom, sorry.
-/
import Derived.Test.YtejhoajebbigbaaGreatDoorRows
import GoSem.ClaimSeven
namespace Go.Proofs.YtejhoajebbigbaaGreatDoor
namespace Rows

/-- THE TIED CARD OF 'laws.FnExactHear'. -/
def fnExactHearCard : Claim7 := { stood := { row := fnExactHearRow, standIns := [], harness := (true, "9d9ffee1ac2f01b51cff654ed95515ab40e697c31f6fcad7c30aaa6478cee8f1"), looks := false }, kinds := [], alts := [], laidByText := true, laidKinds := [.data, .data, .data], laidTests := true, laidLooks := .later }
def FnExactHearCardSaid : Prop := Claim7.holds Tryz.pinned (.plain (OpenSpec.ofChange fnExactHearSpec)) fnExactHearCard

/-- THE SECOND FORM's CARD OF 'laws.FnExactHear'. -/
def fnExactHearUptoCard : Claim7 := { stood := { row := fnExactHearUptoRow, standIns := [], harness := (true, "9d9ffee1ac2f01b51cff654ed95515ab40e697c31f6fcad7c30aaa6478cee8f1"), looks := false }, kinds := [], alts := [], laidByText := true, laidKinds := [.data, .data, .data], laidTests := true, laidLooks := .later }
def FnExactHearUptoCardSaid : Prop := Claim7.holds Tryz.pinned (.plain (OpenSpec.upto fnExactHearSpec)) fnExactHearUptoCard
end Rows
end Go.Proofs.YtejhoajebbigbaaGreatDoor
