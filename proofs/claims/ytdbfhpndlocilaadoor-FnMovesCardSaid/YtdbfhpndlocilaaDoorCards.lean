/-
  DERIVED. GIVEN WITH THE SEED: THE CARDS: each row of YtdbfhpndlocilaaDoorRows.lean that lists a variable, with what it lists TIED to the program's text (the seventh form; the later family's looks); each row that meets fmt, with fmt's text TOLD by the authors' own Lean function (tested against real Go, not proved from fmt's source: count such statements apart). THE CARD IS WHAT COUNTS. Prove the row's statement (the work); the ties are given (YtdbfhpndlocilaaDoorTie.lean); close each card by the builder's one call (the guide's Derived/Test/ToyasCard.lean, 'card_holds'). Laid BY PROGRAM, IN A SANDBOX (cutbox-door.mjs). By AI agents, Wed Nov 11 2026. No macro, syntax, notation, axiom, sorry.
-/
import Derived.Test.YtdbfhpndlocilaaDoorRows
import GoSem.ClaimSeven
namespace Go.Proofs.YtdbfhpndlocilaaDoor
namespace Rows

/-- THE TIED CARD OF 'laws.FnMoves'. -/
def fnMovesCard : Claim7 := { stood := { row := fnMovesRow, standIns := [], harness := (true, "f6daaf336f151ca5206889bfd60ff2c7205e5b047c45a0d79b8966a8a992410e"), looks := true }, kinds := [], alts := [], laidByText := true, laidKinds := [.data, .data, .data, .data, .sentinel, .sentinel, .pinned], laidTests := true, laidLooks := .later }
def FnMovesCardSaid : Prop := Claim7.holds Tryd.pinned (.plain (OpenSpec.ofChange fnMovesSpec)) fnMovesCard

/-- THE SECOND FORM's CARD OF 'laws.FnMoves'. -/
def fnMovesUptoCard : Claim7 := { stood := { row := fnMovesUptoRow, standIns := [], harness := (true, "f6daaf336f151ca5206889bfd60ff2c7205e5b047c45a0d79b8966a8a992410e"), looks := true }, kinds := [], alts := [], laidByText := true, laidKinds := [.data, .data, .data, .data, .sentinel, .sentinel, .pinned], laidTests := true, laidLooks := .later }
def FnMovesUptoCardSaid : Prop := Claim7.holds Tryd.pinned (.plain (OpenSpec.upto fnMovesSpec)) fnMovesUptoCard
end Rows
end Go.Proofs.YtdbfhpndlocilaaDoor
