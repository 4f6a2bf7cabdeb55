/- FnExactHear: the law answers true for every input, and leaves what it is given as it was. Condition: the library variables that its row lists hold what the program text lays (the card ties that). -/
import Derived.Test.YtejhoajebbigbaaGreatDoorRows
import Derived.Test.YtejhoajebbigbaaGreatDoorCards
import Derived.Test.YtejhoajebbigbaaGreatDoorTie
import Derived.Test.YtejhoajebbigbaaGreatDoorChecked
import Derived.Test.YtejhoajebbigbaaGreatDoorVaa
import Derived.Test.YtejhoajebbigbaaGreatDoorVo
import Derived.WalkKit
import Derived.ProofKit
import Derived.OpenShut
import Derived.ShutString
import Derived.ChangeOld
import Derived.Below
import Derived.SizedLaws
import Derived.LaidMore
import Derived.LaidSub
import Derived.Lib.LaidTab
import Derived.Stop.Joined
import Derived.Stop.LaidErr
import Derived.SevenTiedAt
import Derived.Handed
import Derived.LaidHandle
import Derived.MakeChecks
import Derived.Shelf.Vars
import Derived.Test.YtejhoajebbigbaaGreatDoorVzz
namespace Go.Proofs.YtejhoajebbigbaaGreatDoor.fnExactHear
open Go.ChangeShapes Go.WideShapes Go.ChangeAt Go.RowKit Go.VS
open Go.ChangeMaps (open_string shut_string)
set_option linter.unusedVariables false
set_option linter.unusedSimpArgs false
set_option maxRecDepth 100000
theorem proved : Rows.FnExactHearCardSaid :=
  Claim7.holds_tied_plain_at .later [] [.data, .data, .data] true (true, "9d9ffee1ac2f01b51cff654ed95515ab40e697c31f6fcad7c30aaa6478cee8f1") false
    rowHolds (fun _ h => by cases h) (by as_aux_lemma => kernel_rfl) (fun _ h => by cases h) fnExactHear_row_tie rfl ⟨rfl, rfl⟩ (by as_aux_lemma => kernel_rfl) rfl
    (fun f fn hf hfn => by
      obtain rfl : f = 3 := Option.some.inj ((show Tryz.prog.funcNamed "loop.example/g00217/laws.FnExactHear" = some 3 by as_aux_lemma => kernel_rfl).symm.trans hf) |>.symm
      obtain rfl : fn = Tryz.f3 := (Option.some.inj (Tryz.func3.symm.trans hfn)).symm
      exact ⟨by as_aux_lemma => kernel_rfl, fun j t ht => by
        rw [Tryz.params3] at ht
        have hm : t ∈ [29, 36] := by simpa using Array.mem_of_getElem? ht
        have hall : ([29, 36].all fun u => !Tryz.prog.wantsStandIn u) = true := by as_aux_lemma => kernel_rfl
        exact (show Tryz.prog.wantsStandIn t = false by simpa using List.all_eq_true.1 hall t hm)⟩)
    (by as_aux_lemma => kernel_rfl)
#print axioms proved
end Go.Proofs.YtejhoajebbigbaaGreatDoor.fnExactHear
namespace Go.Proofs.YtejhoajebbigbaaGreatDoor
theorem fnExactHear_holds : Rows.FnExactHearCardSaid := fnExactHear.proved
end Go.Proofs.YtejhoajebbigbaaGreatDoor
