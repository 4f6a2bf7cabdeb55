/- FnMoved: the law answers true for every input, and leaves what it is given as it was. Condition: the library variables that its row lists hold what the program text lays (the card ties that). -/
import Derived.Test.YtdbfhpndlocilaaGreatDoorRows
import Derived.Test.YtdbfhpndlocilaaGreatDoorCards
import Derived.Test.YtdbfhpndlocilaaGreatDoorTie
import Derived.Test.YtdbfhpndlocilaaGreatDoorChecked
import Derived.Test.YtdbfhpndlocilaaGreatDoorVp
import Derived.Test.YtdbfhpndlocilaaGreatDoorVo
import Derived.WalkKit
import Derived.ProofKit
import Derived.OpenShut
import Derived.ShutString
import Derived.ChangeOld
import Derived.Below
import Derived.SizedLaws
import Derived.LaidMore
import Derived.LaidSub
import Derived.Lib.LaidTab
import Derived.Stop.Joined
import Derived.Stop.LaidErr
import Derived.SevenTiedAt
import Derived.Handed
import Derived.LaidHandle
import Derived.MakeChecks
import Derived.Lay
import Derived.Shelf.Vars
import Derived.Test.YtdbfhpndlocilaaGreatDoorVzz
namespace Go.Proofs.YtdbfhpndlocilaaGreatDoor.fnMoved
open Go.ChangeShapes Go.WideShapes Go.ChangeAt Go.RowKit Go.VS
open Go.ChangeMaps (open_string shut_string)
set_option linter.unusedVariables false
set_option linter.unusedSimpArgs false
set_option maxRecDepth 100000
theorem proved : Rows.FnMovedCardSaid :=
  Claim7.holds_tied_plain_at .later [] [.data, .data, .data, .data, .sentinel, .sentinel, .pinned] true (true, "50b20e1b682afdb36a8b84cd1307c9f38fef13967d3bf9611ce768fbed779307") true
    rowHolds (fun _ h => by cases h) (by as_aux_lemma => kernel_rfl) (fun _ h => by cases h) fnMoved_row_tie rfl ⟨rfl, rfl⟩ (by as_aux_lemma => kernel_rfl) rfl
    (fun f fn hf hfn => by
      obtain rfl : f = 3 := Option.some.inj ((show Tryz.prog.funcNamed "loop.example/g00217/laws.FnMoved" = some 3 by as_aux_lemma => kernel_rfl).symm.trans hf) |>.symm
      obtain rfl : fn = Tryz.f3 := (Option.some.inj (Tryz.func3.symm.trans hfn)).symm
      exact ⟨by as_aux_lemma => kernel_rfl, fun j t ht => by
        rw [Tryz.params3] at ht
        have hm : t ∈ [22] := by simpa using Array.mem_of_getElem? ht
        have hall : ([22].all fun u => !Tryz.prog.wantsStandIn u) = true := by as_aux_lemma => kernel_rfl
        exact (show Tryz.prog.wantsStandIn t = false by simpa using List.all_eq_true.1 hall t hm)⟩)
    (by as_aux_lemma => kernel_rfl)
#print axioms proved
end Go.Proofs.YtdbfhpndlocilaaGreatDoor.fnMoved
namespace Go.Proofs.YtdbfhpndlocilaaGreatDoor
theorem fnMoved_holds : Rows.FnMovedCardSaid := fnMoved.proved
end Go.Proofs.YtdbfhpndlocilaaGreatDoor
