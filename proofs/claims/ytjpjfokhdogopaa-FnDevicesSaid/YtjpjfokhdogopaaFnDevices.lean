/- FnDevices: the law answers true for every input of bytes, and leaves what it is given as it was. -/
import Derived.Test.YtjpjfokhdogopaaRows
import Derived.Test.YtjpjfokhdogopaaChecked
import Derived.Test.YtjpjfokhdogopaaVp
import Derived.Test.YtjpjfokhdogopaaVq
import Derived.WalkKit
import Derived.ProofKit
import Derived.OpenShut
import Derived.ShutString
import Derived.ChangeOld
import Derived.Below
import Derived.SizedLaws
namespace Go.Proofs.Ytjpjfokhdogopaa.fnDevices
open Go.ChangeShapes Go.WideShapes Go.ChangeAt Go.RowKit Go.VS
open Go.ChangeMaps (open_string shut_string)
set_option linter.unusedVariables false
theorem own : ownKnob Try.prog.godebug = none := by kernel_rfl
theorem laidOut : laidOutB Try.prog = true := by kernel_rfl
set_option maxRecDepth 100000 in
theorem lifted (os : Os) (started : os.Started) (H : Type) (enc : TypeId × Value → H) :
    ReturnsInHanded {} Try.checked os 3 .any (Rows.fnDevicesSpec.pre6 enc Try.prog Try.f3 Rows.fnDevicesRow.domain false) (Rows.fnDevicesSpec.post enc Try.prog Try.f3 false true false false) := by
  refine returnsInHanded_of_change_sized (C := Try.checked) own started (by kernel_rfl) Try.func3
    (ChangeSpec.witness6 (enc := enc) (C := Try.checked) false ⟨#[], #[.slice none 0 0], []⟩ 8 (by kernel_rfl) (by kernel_rfl) (by kernel_rfl) (by kernel_rfl)) ?_
  intro W base args ds gs before hval0 hW hcnd hsz0 _
  have hsz : (DataW.weightsEach Try.prog (Try.f3.params.toList ++ Rows.fnDevicesSpec.plain.varTypes Try.prog) (ds ++ gs)).all (· ≤ reachBytes) = true := hsz0
  have hval : ∀ (j : Nat) t v, Try.f3.params[j]? = some t → args[j]? = some v → Value.okWide Try.prog W .any base t v := hval0
  have hW' := hW
  obtain ⟨p, q, hA0, hV, rfl, hfz, hnd⟩ := hW
  have hA : DataW.TrodAll enc Try.prog W 0 (fun _ => true) true Try.f3.params.toList args.toList ds p := hA0
  rw [Try.params3] at hA hval hsz
  obtain ⟨v0, vs0, d0, ds0, p0, q0, hargs, rfl, rfl, h0, r0⟩ := trodAll_cons hA
  obtain ⟨rfl, rfl, rfl⟩ := trodAll_nil r0
  obtain rfl : args = #[v0] := by cases args; simp_all
  obtain ⟨rfl, rfl⟩ := trodVars_none hV
  have k0 := h0
  have lt0 : ∀ x ∈ p0, x.block < W.heap.size := by obtain ⟨m, hm⟩ := k0; exact DataW.trod_lt m _ _ _ hm
  obtain ⟨A0, len0, cap0, rfl⟩ := okWide_slice Try.underlying22 (hval 0 22 v0 rfl rfl)
  obtain ⟨l0, hk0, g0⟩ := openS_param (openS_slice (P := Try.prog) (sz := 1) 1 Try.underlying22 (by kernel_rfl) (by kernel_rfl) (by decide) (by kernel_rfl) (openS_byte Try.underlying5 (by kernel_rfl))) h0 hsz (j := 0) rfl rfl
  clear hA0 hval0 hsz0
  refine (VCalls.calls (ok3 l0) (W := W) (args := #[.slice A0 len0 cap0]) (run_enter f3_at (by kernel_rfl) (by kernel_rfl) _ _) trivial (Nat.zero_le _) rfl ?_).mono fun e W' he => ?_
  · intro i v x hi hx
    match i with
    | 0 =>
      simp only [List.getElem?_cons_zero, Option.some.injEq] at hi hx
      cases hi
      cases hx
      exact .inl (.inr ⟨.shd hk0, rfl⟩)
    | i + 1 => simp at hx
  · obtain ⟨bel, v, y, x', S, o, rfl, rfl, hr⟩ := he
    obtain ⟨rfl, _⟩ := hr.lit
    exact ⟨_, rfl, _, _, _, [], _, [], hW', trodAll_mk1 (shut_bool Try.underlying4 _), (trodAll_cons_mk (Below.trod laidOut (by kernel_rfl) (of_decide_eq_true (by kernel_rfl)) k0 bel lt0) trodAll_mk0), rfl, bel.frame _, fun h => by cases h⟩
theorem over : Rows.fnDevicesRow.holds Try.pinned (OpenSpec.ofChange Rows.fnDevicesSpec) :=
  OpenClaim.holds_of_wide 3 Try.f3 rfl rfl rfl rfl rfl rfl rfl ⟨rfl, rfl, rfl, rfl, rfl⟩ rfl rfl rfl rfl rfl (by kernel_rfl) Try.func3 (by kernel_rfl)
    (of_decide_eq_true (by kernel_rfl)) (by unfold Func.isWrapper; first | (rw [if_pos (by decide +kernel)]; kernel_rfl) | (rw [if_neg (by decide +kernel)]; exact ⟨rfl, rfl⟩))
    (fun os started H enc _ => lifted os started H enc)
theorem proved : Rows.FnDevicesSaid := over
#print axioms proved
end Go.Proofs.Ytjpjfokhdogopaa.fnDevices
namespace Go.Proofs.Ytjpjfokhdogopaa
/-- The row, under a short name, for the claim. -/
theorem fnDevices_holds : Rows.FnDevicesSaid := fnDevices.proved
end Go.Proofs.Ytjpjfokhdogopaa
