/-
  DERIVED. GIVEN WITH THE SEED: THE CARDS: each row of YtgoohbakklimcaaDoorRows.lean that lists a variable, with what it lists TIED to the program's text (the seventh form; the later family's looks); each row that meets fmt, with fmt's text TOLD by the authors' own Lean function (tested against real Go, not proved from fmt's source: count such statements apart). THE CARD IS WHAT COUNTS. Prove the row's statement (the work); the ties are given (YtgoohbakklimcaaDoorTie.lean); close each card by the builder's one call (the guide's Derived/Test/ToyasCard.lean, 'card_holds'). Laid BY PROGRAM, IN A SANDBOX (cutbox-door.mjs). By AI agents, Wed Nov 11 2026. No macro, syntax, notation, axiom, sorry.
-/
import Derived.Test.YtgoohbakklimcaaDoorRows
import GoSem.ClaimSeven
namespace Go.Proofs.YtgoohbakklimcaaDoor
namespace Rows

/-- THE TIED CARD OF 'laws.FnExactMovedAll'. -/
def fnExactMovedAllCard : Claim7 := { stood := { row := fnExactMovedAllRow, standIns := [], harness := (true, "6728cfc45e6927e600e8de0f9264e7b30e159b747cebdd9bc22d5300e7a3e794"), looks := true }, kinds := [], alts := [], laidByText := true, laidKinds := [.data, .data, .data, .data, .sentinel, .sentinel, .pinned], laidTests := true, laidLooks := .later }
def FnExactMovedAllCardSaid : Prop := Claim7.holds Tryd.pinned (.plain (OpenSpec.ofChange fnExactMovedAllSpec)) fnExactMovedAllCard

/-- THE TIED CARD OF 'laws.FnMoves'. -/
def fnMovesCard : Claim7 := { stood := { row := fnMovesRow, standIns := [], harness := (true, "6728cfc45e6927e600e8de0f9264e7b30e159b747cebdd9bc22d5300e7a3e794"), looks := true }, kinds := [], alts := [], laidByText := true, laidKinds := [.data, .data, .data, .data, .sentinel, .sentinel, .pinned], laidTests := true, laidLooks := .later }
def FnMovesCardSaid : Prop := Claim7.holds Tryd.pinned (.plain (OpenSpec.ofChange fnMovesSpec)) fnMovesCard

/-- THE SECOND FORM's CARD OF 'laws.FnExactMovedAll'. -/
def fnExactMovedAllUptoCard : Claim7 := { stood := { row := fnExactMovedAllUptoRow, standIns := [], harness := (true, "6728cfc45e6927e600e8de0f9264e7b30e159b747cebdd9bc22d5300e7a3e794"), looks := true }, kinds := [], alts := [], laidByText := true, laidKinds := [.data, .data, .data, .data, .sentinel, .sentinel, .pinned], laidTests := true, laidLooks := .later }
def FnExactMovedAllUptoCardSaid : Prop := Claim7.holds Tryd.pinned (.plain (OpenSpec.upto fnExactMovedAllSpec)) fnExactMovedAllUptoCard

/-- THE SECOND FORM's CARD OF 'laws.FnMoves'. -/
def fnMovesUptoCard : Claim7 := { stood := { row := fnMovesUptoRow, standIns := [], harness := (true, "6728cfc45e6927e600e8de0f9264e7b30e159b747cebdd9bc22d5300e7a3e794"), looks := true }, kinds := [], alts := [], laidByText := true, laidKinds := [.data, .data, .data, .data, .sentinel, .sentinel, .pinned], laidTests := true, laidLooks := .later }
def FnMovesUptoCardSaid : Prop := Claim7.holds Tryd.pinned (.plain (OpenSpec.upto fnMovesSpec)) fnMovesUptoCard
end Rows
end Go.Proofs.YtgoohbakklimcaaDoor
