/- FnMoves: the law answers true for every input, and leaves what it is given as it was. Condition: the library variables that its row lists hold what the program text lays (the card ties that). -/
import Derived.Test.YtdbfhpndlocilaaDoorRows
import Derived.Test.YtdbfhpndlocilaaDoorCards
import Derived.Test.YtdbfhpndlocilaaDoorTie
import Derived.Test.YtdbfhpndlocilaaDoorChecked
import Derived.Test.YtdbfhpndlocilaaDoorVp
import Derived.Test.YtdbfhpndlocilaaDoorVo
import Derived.WalkKit
import Derived.ProofKit
import Derived.OpenShut
import Derived.ShutString
import Derived.ChangeOld
import Derived.Below
import Derived.SizedLaws
import Derived.LaidMore
import Derived.LaidSub
import Derived.Lib.LaidTab
import Derived.Stop.Joined
import Derived.Stop.LaidErr
import Derived.SevenTiedAt
import Derived.Handed
import Derived.LaidHandle
import Derived.MakeChecks
import Derived.Lay
import Derived.Shelf.Vars
import Derived.Test.YtdbfhpndlocilaaDoorVzz
namespace Go.Proofs.YtdbfhpndlocilaaDoor.fnMoves
open Go.ChangeShapes Go.WideShapes Go.ChangeAt Go.RowKit Go.VS
open Go.ChangeMaps (open_string shut_string)
set_option linter.unusedVariables false
set_option linter.unusedSimpArgs false
set_option maxRecDepth 100000
theorem proved : Rows.FnMovesCardSaid :=
  Claim7.holds_tied_plain_at .later [] [.data, .data, .data, .data, .sentinel, .sentinel, .pinned] true (true, "f6daaf336f151ca5206889bfd60ff2c7205e5b047c45a0d79b8966a8a992410e") true
    rowHolds (fun _ h => by cases h) (by as_aux_lemma => kernel_rfl) (fun _ h => by cases h) fnMoves_row_tie rfl ⟨rfl, rfl⟩ (by as_aux_lemma => kernel_rfl) rfl
    (fun f fn hf hfn => by
      obtain rfl : f = 3 := Option.some.inj ((show Tryd.prog.funcNamed "loop.example/g00217/laws.FnMoves" = some 3 by as_aux_lemma => kernel_rfl).symm.trans hf) |>.symm
      obtain rfl : fn = Tryd.f3 := (Option.some.inj (Tryd.func3.symm.trans hfn)).symm
      exact ⟨by as_aux_lemma => kernel_rfl, fun j t ht => by
        rw [Tryd.params3] at ht
        have hm : t ∈ [22] := by simpa using Array.mem_of_getElem? ht
        have hall : ([22].all fun u => !Tryd.prog.wantsStandIn u) = true := by as_aux_lemma => kernel_rfl
        exact (show Tryd.prog.wantsStandIn t = false by simpa using List.all_eq_true.1 hall t hm)⟩)
    (by as_aux_lemma => kernel_rfl)
#print axioms proved
end Go.Proofs.YtdbfhpndlocilaaDoor.fnMoves
namespace Go.Proofs.YtdbfhpndlocilaaDoor
/-- The card, under a short name, for the claim. -/
theorem fnMoves_holds : Rows.FnMovesCardSaid := fnMoves.proved
end Go.Proofs.YtdbfhpndlocilaaDoor

