/- FnExactHear: the law answers true for every input, and leaves what it is given as it was. Condition: the library variables that its row lists hold what the program text lays (the card ties that). -/
import Derived.Test.YtejhoajebbigbaaGreatDoorRows
import Derived.Test.YtejhoajebbigbaaGreatDoorCards
import Derived.Test.YtejhoajebbigbaaGreatDoorTie
import Derived.Test.YtejhoajebbigbaaGreatDoorChecked
import Derived.Test.YtejhoajebbigbaaGreatDoorVaa
import Derived.Test.YtejhoajebbigbaaGreatDoorVo
import Derived.WalkKit
import Derived.ProofKit
import Derived.OpenShut
import Derived.ShutString
import Derived.ChangeOld
import Derived.Below
import Derived.SizedLaws
import Derived.LaidMore
import Derived.LaidSub
import Derived.Lib.LaidTab
import Derived.Stop.Joined
import Derived.Stop.LaidErr
import Derived.SevenTiedAt
import Derived.Handed
import Derived.LaidHandle
import Derived.MakeChecks
import Derived.Shelf.Vars
namespace Go.Proofs.YtejhoajebbigbaaGreatDoor.fnExactHear
open Go.ChangeShapes Go.WideShapes Go.ChangeAt Go.RowKit Go.VS
open Go.ChangeMaps (open_string shut_string)
set_option linter.unusedVariables false
set_option linter.unusedSimpArgs false
set_option maxRecDepth 100000
theorem own : ownKnob Tryz.prog.godebug = none := by kernel_rfl
theorem laidOut : laidOutB Tryz.prog = true := by kernel_rfl
noncomputable def opF24 : Int × Int × List Int × List Int → AVal := (fun x : Int × Int × List Int × List Int => AVal.agg [(fun z : Int => AVal.lit (.int .i64 z)) x.1, (fun z : Int => AVal.lit (.int .i64 z)) x.2.1, (fun l : List Int => AVal.lst false 1 (l.map (fun z : Int => AVal.lit (.int .i64 z)))) x.2.2.1, (fun l : List Int => AVal.lst false 1 (l.map (fun z : Int => AVal.lit (.int .i64 z)))) x.2.2.2])
theorem op24 : ∃ good, OpensS Tryz.prog 24 (Prf.enc false) good := ⟨_, openS_iso (f := opF24) (f' := (Prf.enc false)) (fun x => Prf.mk x.1 x.2.1 x.2.2.1 x.2.2.2) (fun p => (p.view, p.name, p.bys, p.tags)) (fun _ => rfl) (fun _ => rfl) (fun _ => rfl) (openS_struct Tryz.underlying24 (by kernel_rfl) (openF_cons (off := 0) (off' := 1) (n := 1) (m := 3) rfl (by kernel_rfl) rfl (openS_int Tryz.underlying2 (by kernel_rfl)) (openF_cons (off := 1) (off' := 2) (n := 1) (m := 2) rfl (by kernel_rfl) rfl (openS_int Tryz.underlying2 (by kernel_rfl)) (openF_cons (off := 2) (off' := 3) (n := 1) (m := 1) rfl (by kernel_rfl) rfl (openS_slice (P := Tryz.prog) (sz := 1) 8 Tryz.underlying22 (by kernel_rfl) (by kernel_rfl) (by decide) (by kernel_rfl) (openS_int Tryz.underlying2 (by kernel_rfl))) (openF_last (off := 3) (n := 1) rfl (by kernel_rfl) (openS_slice (P := Tryz.prog) (sz := 1) 8 Tryz.underlying22 (by kernel_rfl) (by kernel_rfl) (by decide) (by kernel_rfl) (openS_int Tryz.underlying2 (by kernel_rfl))))))))⟩
noncomputable def opF32 : Int × Int × Prf × List ByteArray × Int → AVal := (fun x : Int × Int × Prf × List ByteArray × Int => AVal.agg [(fun z : Int => AVal.lit (.int .i64 z)) x.1, (fun z : Int => AVal.lit (.int .i64 z)) x.2.1, (Prf.enc false) x.2.2.1, (fun l : List ByteArray => AVal.lst false 1 (l.map (fun s : ByteArray => AVal.lit (.string s)))) x.2.2.2.1, (fun z : Int => AVal.lit (.int .i64 z)) x.2.2.2.2])
theorem op32 : ∃ good, OpensS Tryz.prog 32 (Blk.enc false) good := ⟨_, openS_iso (f := opF32) (f' := (Blk.enc false)) (fun x => Blk.mk x.1 x.2.1 x.2.2.1 x.2.2.2.1 x.2.2.2.2) (fun p => (p.view, p.parent, p.proof, p.moves, p.bY)) (fun _ => rfl) (fun _ => rfl) (fun _ => rfl) (openS_struct Tryz.underlying32 (by kernel_rfl) (openF_cons (off := 0) (off' := 1) (n := 1) (m := 7) rfl (by kernel_rfl) rfl (openS_int Tryz.underlying2 (by kernel_rfl)) (openF_cons (off := 1) (off' := 2) (n := 1) (m := 6) rfl (by kernel_rfl) rfl (openS_int Tryz.underlying2 (by kernel_rfl)) (openF_cons (off := 2) (off' := 6) (n := 4) (m := 2) rfl (by kernel_rfl) rfl op24.choose_spec (openF_cons (off := 6) (off' := 7) (n := 1) (m := 1) rfl (by kernel_rfl) rfl (openS_slice (P := Tryz.prog) (sz := 1) 16 Tryz.underlying30 (by kernel_rfl) (by kernel_rfl) (by decide) (by kernel_rfl) (openS_string Tryz.underlying9 (by kernel_rfl))) (openF_last (off := 7) (n := 1) rfl (by kernel_rfl) (openS_int Tryz.underlying2 (by kernel_rfl))))))))⟩
noncomputable def opF34 : Int × Int × Int × Int → AVal := (fun x : Int × Int × Int × Int => AVal.agg [(fun z : Int => AVal.lit (.int .i64 z)) x.1, (fun z : Int => AVal.lit (.int .i64 z)) x.2.1, (fun z : Int => AVal.lit (.int .i64 z)) x.2.2.1, (fun z : Int => AVal.lit (.int .i64 z)) x.2.2.2])
theorem op34 : ∃ good, OpensS Tryz.prog 34 Vot.enc good := ⟨_, openS_iso (f := opF34) (f' := Vot.enc) (fun x => Vot.mk x.1 x.2.1 x.2.2.1 x.2.2.2) (fun p => (p.view, p.name, p.bY, p.tag)) (fun _ => rfl) (fun _ => rfl) (fun _ => rfl) (openS_struct Tryz.underlying34 (by kernel_rfl) (openF_cons (off := 0) (off' := 1) (n := 1) (m := 3) rfl (by kernel_rfl) rfl (openS_int Tryz.underlying2 (by kernel_rfl)) (openF_cons (off := 1) (off' := 2) (n := 1) (m := 2) rfl (by kernel_rfl) rfl (openS_int Tryz.underlying2 (by kernel_rfl)) (openF_cons (off := 2) (off' := 3) (n := 1) (m := 1) rfl (by kernel_rfl) rfl (openS_int Tryz.underlying2 (by kernel_rfl)) (openF_last (off := 3) (n := 1) rfl (by kernel_rfl) (openS_int Tryz.underlying2 (by kernel_rfl)))))))⟩
noncomputable def opF115 : Int × Int → AVal := (fun x : Int × Int => AVal.agg [(fun z : Int => AVal.lit (.int .i64 z)) x.1, (fun z : Int => AVal.lit (.int .i64 z)) x.2])
theorem op115 : ∃ good, OpensS Tryz.prog 115 Nws.enc good := ⟨_, openS_iso (f := opF115) (f' := Nws.enc) (fun x => Nws.mk x.1 x.2) (fun p => (p.view, p.src)) (fun _ => rfl) (fun _ => rfl) (fun _ => rfl) (openS_struct Tryz.underlying115 (by kernel_rfl) (openF_cons (off := 0) (off' := 1) (n := 1) (m := 1) rfl (by kernel_rfl) rfl (openS_int Tryz.underlying2 (by kernel_rfl)) (openF_last (off := 1) (n := 1) rfl (by kernel_rfl) (openS_int Tryz.underlying2 (by kernel_rfl)))))⟩
noncomputable def opF29 : Int × Int × Int × Int × Int × Int × Prf × List Blk × List Vot × List Nws × List Int → AVal := (fun x : Int × Int × Int × Int × Int × Int × Prf × List Blk × List Vot × List Nws × List Int => AVal.agg [(fun z : Int => AVal.lit (.int .i64 z)) x.1, (fun z : Int => AVal.lit (.int .i64 z)) x.2.1, (fun z : Int => AVal.lit (.int .i64 z)) x.2.2.1, (fun z : Int => AVal.lit (.int .i64 z)) x.2.2.2.1, (fun z : Int => AVal.lit (.int .i64 z)) x.2.2.2.2.1, (fun z : Int => AVal.lit (.int .i64 z)) x.2.2.2.2.2.1, (Prf.enc false) x.2.2.2.2.2.2.1, (fun l : List Blk => AVal.lst false 8 (l.map (Blk.enc false))) x.2.2.2.2.2.2.2.1, (fun l : List Vot => AVal.lst false 4 (l.map Vot.enc)) x.2.2.2.2.2.2.2.2.1, (fun l : List Nws => AVal.lst false 2 (l.map Nws.enc)) x.2.2.2.2.2.2.2.2.2.1, (fun l : List Int => AVal.lst false 1 (l.map (fun z : Int => AVal.lit (.int .i64 z)))) x.2.2.2.2.2.2.2.2.2.2])
theorem op29 : ∃ good, OpensS Tryz.prog 29 (Rpl.enc false) good := ⟨_, openS_iso (f := opF29) (f' := (Rpl.enc false)) (fun x => Rpl.mk x.1 x.2.1 x.2.2.1 x.2.2.2.1 x.2.2.2.2.1 x.2.2.2.2.2.1 x.2.2.2.2.2.2.1 x.2.2.2.2.2.2.2.1 x.2.2.2.2.2.2.2.2.1 x.2.2.2.2.2.2.2.2.2.1 x.2.2.2.2.2.2.2.2.2.2) (fun p => (p.id, p.n, p.view, p.voted, p.locked, p.proposed, p.high, p.blocks, p.votes, p.news, p.done)) (fun _ => rfl) (fun _ => rfl) (fun _ => rfl) (openS_struct Tryz.underlying29 (by kernel_rfl) (openF_cons (off := 0) (off' := 1) (n := 1) (m := 13) rfl (by kernel_rfl) rfl (openS_int Tryz.underlying2 (by kernel_rfl)) (openF_cons (off := 1) (off' := 2) (n := 1) (m := 12) rfl (by kernel_rfl) rfl (openS_int Tryz.underlying2 (by kernel_rfl)) (openF_cons (off := 2) (off' := 3) (n := 1) (m := 11) rfl (by kernel_rfl) rfl (openS_int Tryz.underlying2 (by kernel_rfl)) (openF_cons (off := 3) (off' := 4) (n := 1) (m := 10) rfl (by kernel_rfl) rfl (openS_int Tryz.underlying2 (by kernel_rfl)) (openF_cons (off := 4) (off' := 5) (n := 1) (m := 9) rfl (by kernel_rfl) rfl (openS_int Tryz.underlying2 (by kernel_rfl)) (openF_cons (off := 5) (off' := 6) (n := 1) (m := 8) rfl (by kernel_rfl) rfl (openS_int Tryz.underlying2 (by kernel_rfl)) (openF_cons (off := 6) (off' := 10) (n := 4) (m := 4) rfl (by kernel_rfl) rfl op24.choose_spec (openF_cons (off := 10) (off' := 11) (n := 1) (m := 3) rfl (by kernel_rfl) rfl (openS_slice (P := Tryz.prog) (sz := 8) 112 Tryz.underlying25 (by kernel_rfl) (by kernel_rfl) (by decide) (by kernel_rfl) op32.choose_spec) (openF_cons (off := 11) (off' := 12) (n := 1) (m := 2) rfl (by kernel_rfl) rfl (openS_slice (P := Tryz.prog) (sz := 4) 32 Tryz.underlying26 (by kernel_rfl) (by kernel_rfl) (by decide) (by kernel_rfl) op34.choose_spec) (openF_cons (off := 12) (off' := 13) (n := 1) (m := 1) rfl (by kernel_rfl) rfl (openS_slice (P := Tryz.prog) (sz := 2) 16 Tryz.underlying27 (by kernel_rfl) (by kernel_rfl) (by decide) (by kernel_rfl) op115.choose_spec) (openF_last (off := 13) (n := 1) rfl (by kernel_rfl) (openS_slice (P := Tryz.prog) (sz := 1) 8 Tryz.underlying22 (by kernel_rfl) (by kernel_rfl) (by decide) (by kernel_rfl) (openS_int Tryz.underlying2 (by kernel_rfl)))))))))))))))⟩
noncomputable def opF36 : Int × Int × Int × Int × Blk × Vot × Prf → AVal := (fun x : Int × Int × Int × Int × Blk × Vot × Prf => AVal.agg [(fun z : Int => AVal.lit (.int .i64 z)) x.1, (fun z : Int => AVal.lit (.int .i64 z)) x.2.1, (fun z : Int => AVal.lit (.int .i64 z)) x.2.2.1, (fun z : Int => AVal.lit (.int .i64 z)) x.2.2.2.1, (Blk.enc false) x.2.2.2.2.1, Vot.enc x.2.2.2.2.2.1, (Prf.enc false) x.2.2.2.2.2.2])
theorem op36 : ∃ good, OpensS Tryz.prog 36 (Msg.enc false) good := ⟨_, openS_iso (f := opF36) (f' := (Msg.enc false)) (fun x => Msg.mk x.1 x.2.1 x.2.2.1 x.2.2.2.1 x.2.2.2.2.1 x.2.2.2.2.2.1 x.2.2.2.2.2.2) (fun p => (p.kind, p.src, p.dst, p.view, p.block, p.vote, p.proof)) (fun _ => rfl) (fun _ => rfl) (fun _ => rfl) (openS_struct Tryz.underlying36 (by kernel_rfl) (openF_cons (off := 0) (off' := 1) (n := 1) (m := 19) rfl (by kernel_rfl) rfl (openS_int Tryz.underlying2 (by kernel_rfl)) (openF_cons (off := 1) (off' := 2) (n := 1) (m := 18) rfl (by kernel_rfl) rfl (openS_int Tryz.underlying2 (by kernel_rfl)) (openF_cons (off := 2) (off' := 3) (n := 1) (m := 17) rfl (by kernel_rfl) rfl (openS_int Tryz.underlying2 (by kernel_rfl)) (openF_cons (off := 3) (off' := 4) (n := 1) (m := 16) rfl (by kernel_rfl) rfl (openS_int Tryz.underlying2 (by kernel_rfl)) (openF_cons (off := 4) (off' := 12) (n := 8) (m := 8) rfl (by kernel_rfl) rfl op32.choose_spec (openF_cons (off := 12) (off' := 16) (n := 4) (m := 4) rfl (by kernel_rfl) rfl op34.choose_spec (openF_last (off := 16) (n := 4) rfl (by kernel_rfl) op24.choose_spec))))))))⟩
theorem door_met (os : Os) (args : Array Value) : laidMetH Tryz.prog [("math/bits.deBruijn32tab", Rows.laid_math_bits_deBruijn32tab), ("math/bits.deBruijn64tab", Rows.laid_math_bits_deBruijn64tab), ("internal/strconv.uint64pow10", Rows.laid_internal_strconv_uint64pow10)] ((World.doorLaid Tryz.prog 72 os).forCall (fun _ _ => 0) ⟨#[], args, []⟩).memory :=
  laidMetH_of_parts3 (fuel := 8) (laidMet_of_run' 8 (by kernel_rfl) (by kernel_rfl)) (by kernel_rfl) (by kernel_rfl)
theorem wrap {a : Assume} {C : Checked} {os : Os} {H : Type} {enc : TypeId × Value → H} {f : FuncId} {fn : Func} {s : ChangeSpec} {conds : List PathCond} {apart fresh handsOn again : Bool} {X : World → Array Value → Prop}
    (hX : ∀ (w w' : World) (args : Array Value), w.heap = w'.heap → X w args → X w' args)
    (own : ownKnob C.prog.godebug = none) (started : os.Started) (noInit : C.prog.inits.idxOf? f = none) (hfn : C.prog.funcs[f]? = some fn)
    (witness : ∃ (w : World) (tape : Tape) (i : Input), w.os = os ∧ (w.forCall tape i).Shaped C.prog ∧ i.vars = [] ∧ Input.okWide C.prog (w.forCall tape i) .any w.heap.size f i ∧
      ((s.pre enc C.prog fn conds apart (w.forCall tape i).memory i.args ∧ X (w.forCall tape i).memory i.args) ∧ sizedMet enc C.prog fn (OpenSpec.ofChange s) apart (w.forCall tape i).memory i.args) ∧ a.holds C.prog (lone (Frame.enter C.prog f i.args .normal) [] (w.forCall tape i)))
    (contract : ∀ (W : World) (base : Nat) (args : Array Value) (ds gs : List (DataW H)) (before : List MemPlace),
      (∀ (j : Nat) t v, fn.params[j]? = some t → args[j]? = some v → Value.okWide C.prog W .any base t v) →
      DataW.Whole enc C.prog fn.params.toList s.vars apart W args.toList ds gs before →
      (DataW.weightsEach C.prog (fn.params.toList ++ s.plain.varTypes C.prog) (ds ++ gs)).all (· ≤ reachBytes) = true → X W args → W.ShapedOpen C.prog →
      Calls C.prog f args W fun e W' => ∃ v, e = .returned v ∧ s.post enc C.prog fn apart fresh handsOn again W args v W') :
    ReturnsInHanded a C os f .any (fun w args => (s.pre enc C.prog fn conds apart w args ∧ X w args) ∧ sizedMet enc C.prog fn (OpenSpec.ofChange s) apart w args) (s.post enc C.prog fn apart fresh handsOn again) := by
  refine returnsInHanded_of_calls own started noInit witness ?_
  intro w tape i _ hsh _ hok hpre hholds
  obtain ⟨_, _, _, fn', hfn', _, _, _, _, hval⟩ := hok
  have e : fn' = fn := Option.some.inj (hfn'.symm.trans hfn)
  subst e
  obtain ⟨⟨⟨ds, gs, before, hw, hc⟩, hx⟩, hz⟩ := hpre
  have hw' := DataW.Whole.of_heap (w' := w.forCall tape i) (by rfl) hw
  refine (contract (w.forCall tape i) w.heap.size i.args ds gs before hval hw' (hz.weights hw) (hX _ _ _ (by rfl) hx) hsh).mono fun e W' ⟨v, he, hp⟩ => ?_
  subst he
  exact ChangeSpec.post_blind hp
theorem gl_of {W : World} (h : laidMetH Tryz.prog [("math/bits.deBruijn32tab", Rows.laid_math_bits_deBruijn32tab), ("math/bits.deBruijn64tab", Rows.laid_math_bits_deBruijn64tab), ("internal/strconv.uint64pow10", Rows.laid_internal_strconv_uint64pow10)] W) (hs : W.ShapedOpen Tryz.prog) : gz.Gl W ∧ gz.ng ≤ W.heap.size := by
  rw [MakeChecks.laidMetH_plain _ _ _ (by kernel_rfl)] at h
  have t1 := h.tail.tail
  refine ⟨Lib.tabIs_of_head (g := 0) (t := 182) (e := 175) (n := 20) (zs := Lib.pow10Tab) (by kernel_rfl) (by kernel_rfl) Tryz.underlying182 Tryz.underlying175 (by kernel_rfl) (by kernel_rfl) t1, ?_⟩
  obtain ⟨o, _, ho, _⟩ := hs.2 3 (Nat.le_of_ble_eq_true (by kernel_rfl)) (Nat.le_of_ble_eq_true (by kernel_rfl))
  have := (Array.getElem?_eq_some_iff.1 ho).1
  exact Nat.le_of_lt this
theorem lifted (os : Os) (started : os.Started) (H : Type) (enc : TypeId × Value → H) :
    ReturnsInHanded {} Tryz.checked os 3 .any (fun w args => (Rows.fnExactHearSpec.pre enc Tryz.prog Tryz.f3 [] false w args ∧ laidMetH Tryz.prog [("math/bits.deBruijn32tab", Rows.laid_math_bits_deBruijn32tab), ("math/bits.deBruijn64tab", Rows.laid_math_bits_deBruijn64tab), ("internal/strconv.uint64pow10", Rows.laid_internal_strconv_uint64pow10)] w) ∧ sizedMet enc Tryz.prog Tryz.f3 (OpenSpec.ofChange Rows.fnExactHearSpec) false w args) (Rows.fnExactHearSpec.post enc Tryz.prog Tryz.f3 false true false false) := by
  refine wrap (C := Tryz.checked) (X := fun w _ => laidMetH Tryz.prog [("math/bits.deBruijn32tab", Rows.laid_math_bits_deBruijn32tab), ("math/bits.deBruijn64tab", Rows.laid_math_bits_deBruijn64tab), ("internal/strconv.uint64pow10", Rows.laid_internal_strconv_uint64pow10)] w) (fun _ _ _ hh h => h.of_heap hh) own started (by kernel_rfl) Tryz.func3
    (ChangeSpec.witness_shaped (enc := enc) (C := Tryz.checked) (os := os) (X := fun w _ => laidMetH Tryz.prog [("math/bits.deBruijn32tab", Rows.laid_math_bits_deBruijn32tab), ("math/bits.deBruijn64tab", Rows.laid_math_bits_deBruijn64tab), ("internal/strconv.uint64pow10", Rows.laid_internal_strconv_uint64pow10)] w) false (World.doorLaid Tryz.prog 72 os) #[.agg #[.int .i64 0, .int .i64 0, .int .i64 0, .int .i64 0, .int .i64 0, .int .i64 0, .int .i64 0, .int .i64 0, .slice none 0 0, .slice none 0 0, .slice none 0 0, .slice none 0 0, .slice none 0 0, .slice none 0 0], .agg #[.int .i64 0, .int .i64 0, .int .i64 0, .int .i64 0, .int .i64 0, .int .i64 0, .int .i64 0, .int .i64 0, .slice none 0 0, .slice none 0 0, .slice none 0 0, .int .i64 0, .int .i64 0, .int .i64 0, .int .i64 0, .int .i64 0, .int .i64 0, .int .i64 0, .slice none 0 0, .slice none 0 0]] 8 rfl (World.shaped_of_RefB (by kernel_rfl) (by kernel_rfl)) (by kernel_rfl) (by kernel_rfl) (by kernel_rfl) (door_met os _)) ?_
  intro W base args ds gs before hval0 hW hsz0 hL hSh
  have hsz : (DataW.weightsEach Tryz.prog (Tryz.f3.params.toList ++ Rows.fnExactHearSpec.plain.varTypes Tryz.prog) (ds ++ gs)).all (· ≤ reachBytes) = true := hsz0
  have hval : ∀ (j : Nat) t v, Tryz.f3.params[j]? = some t → args[j]? = some v → Value.okWide Tryz.prog W .any base t v := hval0
  have hW' := hW
  obtain ⟨p, q, hA0, hV, rfl, hfz, hnd⟩ := hW
  have hA : DataW.TrodAll enc Tryz.prog W 0 (fun _ => true) true Tryz.f3.params.toList args.toList ds p := hA0
  rw [Tryz.params3] at hA hval hsz
  obtain ⟨v0, vs0, d0, ds0, p0, q0, hargs0, hds0, hp0, h0, r0⟩ := trodAll_cons hA
  obtain ⟨v1, vs1, d1, ds1, p1, q1, hargs1, hds1, hp1, h1, r1⟩ := trodAll_cons r0
  obtain ⟨rfl, rfl, rfl⟩ := trodAll_nil r1
  subst hargs1 hds1 hp1
  subst hds0 hp0
  obtain rfl : args = #[v0, v1] := by cases args; simp_all
  obtain ⟨rfl, rfl⟩ := trodVars_none hV
  have k0 := h0
  have lt0 : ∀ x ∈ p0, x.block < W.heap.size := by obtain ⟨m, hm⟩ := k0; exact DataW.trod_lt m _ _ _ hm
  have k1 := h1
  have lt1 : ∀ x ∈ p1, x.block < W.heap.size := by obtain ⟨m, hm⟩ := k1; exact DataW.trod_lt m _ _ _ hm
  obtain ⟨c0, rfl, _⟩ := okWide_struct Tryz.underlying29 (hval 0 29 v0 rfl rfl)
  obtain ⟨c1, rfl, _⟩ := okWide_struct Tryz.underlying36 (hval 1 36 v1 rfl rfl)
  obtain ⟨x0, hk0, g0⟩ := openS_param op29.choose_spec h0 hsz (j := 0) rfl rfl
  obtain ⟨x1, hk1, g1⟩ := openS_param op36.choose_spec h1 hsz (j := 1) rfl rfl
  clear hA0 hval0 hsz0
  have hG := gl_of hL hSh
  refine (VCalls.calls (ok3 x0 x1) (W := W) (args := #[.agg c0, .agg c1]) (enterC f3_at (by kernel_rfl) (by kernel_rfl) _ _) hG.1 hG.2 rfl ?_).mono fun e W' he => ?_
  · intro i v x hi hx
    match i with
    | 0 =>
      simp only [List.getElem?_cons_zero, List.getElem?_cons_succ, Option.some.injEq] at hi hx
      cases hi
      cases hx
      exact .inl (.inr ⟨.shd hk0, rfl⟩)
    | 1 =>
      simp only [List.getElem?_cons_zero, List.getElem?_cons_succ, Option.some.injEq] at hi hx
      cases hi
      cases hx
      exact .inl (.inr ⟨.shd hk1, rfl⟩)
    | i + 2 => simp at hx
  · obtain ⟨bel, v, y, x', S, o, rfl, rfl, hr⟩ := he
    obtain ⟨rfl, _⟩ := hr.lit
    exact ⟨_, rfl, _, _, _, [], _, [], hW', trodAll_mk1 (shut_bool Tryz.underlying4 _), (trodAll_cons_mk (Below.trod laidOut (by kernel_rfl) (of_decide_eq_true (by kernel_rfl)) k0 bel lt0) (trodAll_cons_mk (Below.trod laidOut (by kernel_rfl) (of_decide_eq_true (by kernel_rfl)) k1 bel lt1) trodAll_mk0)), rfl, bel.frame _, fun h => by cases h⟩
set_option maxHeartbeats 4000000 in
theorem closed : joinedFacts Tryz.prog 3 Tryz.f3 Rows.fnExactHearSpec Rows.fnExactHearRow = true := by
  unfold joinedFacts
  simp only [Bool.and_eq_true]
  repeat' refine And.intro ?_ ?_
  all_goals as_aux_lemma => kernel_rfl
theorem inst : (Tryz.f3).isInstance Tryz.prog Rows.fnExactHearRow.origin Rows.fnExactHearRow.targs := of_decide_eq_true (by kernel_rfl)
theorem wrapper : (Tryz.f3).isWrapper Tryz.prog Rows.fnExactHearRow.wrapper Rows.fnExactHearRow.mainSum := by
  unfold Func.isWrapper; first | (rw [if_pos (by decide +kernel)]; kernel_rfl) | (rw [if_neg (by decide +kernel)]; exact ⟨rfl, rfl⟩)
theorem rowHolds : Rows.FnExactHearSaid :=
  OpenClaim.holds_of_wide 3 Tryz.f3 rfl rfl rfl rfl rfl rfl rfl ⟨rfl, rfl, rfl, rfl, rfl⟩ rfl rfl rfl rfl rfl (by as_aux_lemma => kernel_rfl) Tryz.func3 closed inst wrapper
    (fun os started H enc _ => lifted os started H enc)
end Go.Proofs.YtejhoajebbigbaaGreatDoor.fnExactHear
