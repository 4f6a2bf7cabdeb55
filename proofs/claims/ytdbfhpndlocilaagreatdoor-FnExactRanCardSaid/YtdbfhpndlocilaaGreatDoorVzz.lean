/- FnExactRan: the law answers true for every input, and leaves what it is given as it was. Condition: the library variables that its row lists hold what the program text lays (the card ties that). -/
import Derived.Test.YtdbfhpndlocilaaGreatDoorRows
import Derived.Test.YtdbfhpndlocilaaGreatDoorCards
import Derived.Test.YtdbfhpndlocilaaGreatDoorTie
import Derived.Test.YtdbfhpndlocilaaGreatDoorChecked
import Derived.Test.YtdbfhpndlocilaaGreatDoorVs
import Derived.Test.YtdbfhpndlocilaaGreatDoorVo
import Derived.WalkKit
import Derived.ProofKit
import Derived.OpenShut
import Derived.ShutString
import Derived.ChangeOld
import Derived.Below
import Derived.SizedLaws
import Derived.LaidMore
import Derived.LaidSub
import Derived.Lib.LaidTab
import Derived.Stop.Joined
import Derived.Stop.LaidErr
import Derived.SevenTiedAt
import Derived.Handed
import Derived.LaidHandle
import Derived.MakeChecks
import Derived.Lay
import Derived.Shelf.Vars
namespace Go.Proofs.YtdbfhpndlocilaaGreatDoor.fnExactRan
open Go.ChangeShapes Go.WideShapes Go.ChangeAt Go.RowKit Go.VS
open Go.ChangeMaps (open_string shut_string)
set_option linter.unusedVariables false
set_option linter.unusedSimpArgs false
set_option maxRecDepth 100000
theorem own : ownKnob Tryz.prog.godebug = none := by kernel_rfl
theorem laidOut : laidOutB Tryz.prog = true := by kernel_rfl
noncomputable def opF45 : Int × Int × List Int × List Int → AVal := (fun x : Int × Int × List Int × List Int => AVal.agg [(fun z : Int => AVal.lit (.int .i64 z)) x.1, (fun z : Int => AVal.lit (.int .i64 z)) x.2.1, (fun l : List Int => AVal.lst false 1 (l.map (fun z : Int => AVal.lit (.int .i64 z)))) x.2.2.1, (fun l : List Int => AVal.lst false 1 (l.map (fun z : Int => AVal.lit (.int .i64 z)))) x.2.2.2])
theorem op45 : ∃ good, OpensS Tryz.prog 45 (Prf.enc false) good := ⟨_, openS_iso (f := opF45) (f' := (Prf.enc false)) (fun x => Prf.mk x.1 x.2.1 x.2.2.1 x.2.2.2) (fun p => (p.view, p.name, p.bys, p.tags)) (fun _ => rfl) (fun _ => rfl) (fun _ => rfl) (openS_struct Tryz.underlying45 (by kernel_rfl) (openF_cons (off := 0) (off' := 1) (n := 1) (m := 3) rfl (by kernel_rfl) rfl (openS_int Tryz.underlying2 (by kernel_rfl)) (openF_cons (off := 1) (off' := 2) (n := 1) (m := 2) rfl (by kernel_rfl) rfl (openS_int Tryz.underlying2 (by kernel_rfl)) (openF_cons (off := 2) (off' := 3) (n := 1) (m := 1) rfl (by kernel_rfl) rfl (openS_slice (P := Tryz.prog) (sz := 1) 8 Tryz.underlying24 (by kernel_rfl) (by kernel_rfl) (by decide) (by kernel_rfl) (openS_int Tryz.underlying2 (by kernel_rfl))) (openF_last (off := 3) (n := 1) rfl (by kernel_rfl) (openS_slice (P := Tryz.prog) (sz := 1) 8 Tryz.underlying24 (by kernel_rfl) (by kernel_rfl) (by decide) (by kernel_rfl) (openS_int Tryz.underlying2 (by kernel_rfl))))))))⟩
noncomputable def opF120 : Int × Int × Prf × List ByteArray × Int → AVal := (fun x : Int × Int × Prf × List ByteArray × Int => AVal.agg [(fun z : Int => AVal.lit (.int .i64 z)) x.1, (fun z : Int => AVal.lit (.int .i64 z)) x.2.1, (Prf.enc false) x.2.2.1, (fun l : List ByteArray => AVal.lst false 1 (l.map (fun s : ByteArray => AVal.lit (.string s)))) x.2.2.2.1, (fun z : Int => AVal.lit (.int .i64 z)) x.2.2.2.2])
theorem op120 : ∃ good, OpensS Tryz.prog 120 (Blk.enc false) good := ⟨_, openS_iso (f := opF120) (f' := (Blk.enc false)) (fun x => Blk.mk x.1 x.2.1 x.2.2.1 x.2.2.2.1 x.2.2.2.2) (fun p => (p.view, p.parent, p.proof, p.moves, p.bY)) (fun _ => rfl) (fun _ => rfl) (fun _ => rfl) (openS_struct Tryz.underlying120 (by kernel_rfl) (openF_cons (off := 0) (off' := 1) (n := 1) (m := 7) rfl (by kernel_rfl) rfl (openS_int Tryz.underlying2 (by kernel_rfl)) (openF_cons (off := 1) (off' := 2) (n := 1) (m := 6) rfl (by kernel_rfl) rfl (openS_int Tryz.underlying2 (by kernel_rfl)) (openF_cons (off := 2) (off' := 6) (n := 4) (m := 2) rfl (by kernel_rfl) rfl op45.choose_spec (openF_cons (off := 6) (off' := 7) (n := 1) (m := 1) rfl (by kernel_rfl) rfl (openS_slice (P := Tryz.prog) (sz := 1) 16 Tryz.underlying33 (by kernel_rfl) (by kernel_rfl) (by decide) (by kernel_rfl) (openS_string Tryz.underlying9 (by kernel_rfl))) (openF_last (off := 7) (n := 1) rfl (by kernel_rfl) (openS_int Tryz.underlying2 (by kernel_rfl))))))))⟩
noncomputable def opF134 : Int × Int × Int × Int → AVal := (fun x : Int × Int × Int × Int => AVal.agg [(fun z : Int => AVal.lit (.int .i64 z)) x.1, (fun z : Int => AVal.lit (.int .i64 z)) x.2.1, (fun z : Int => AVal.lit (.int .i64 z)) x.2.2.1, (fun z : Int => AVal.lit (.int .i64 z)) x.2.2.2])
theorem op134 : ∃ good, OpensS Tryz.prog 134 Vot.enc good := ⟨_, openS_iso (f := opF134) (f' := Vot.enc) (fun x => Vot.mk x.1 x.2.1 x.2.2.1 x.2.2.2) (fun p => (p.view, p.name, p.bY, p.tag)) (fun _ => rfl) (fun _ => rfl) (fun _ => rfl) (openS_struct Tryz.underlying134 (by kernel_rfl) (openF_cons (off := 0) (off' := 1) (n := 1) (m := 3) rfl (by kernel_rfl) rfl (openS_int Tryz.underlying2 (by kernel_rfl)) (openF_cons (off := 1) (off' := 2) (n := 1) (m := 2) rfl (by kernel_rfl) rfl (openS_int Tryz.underlying2 (by kernel_rfl)) (openF_cons (off := 2) (off' := 3) (n := 1) (m := 1) rfl (by kernel_rfl) rfl (openS_int Tryz.underlying2 (by kernel_rfl)) (openF_last (off := 3) (n := 1) rfl (by kernel_rfl) (openS_int Tryz.underlying2 (by kernel_rfl)))))))⟩
noncomputable def opF136 : Int × Int → AVal := (fun x : Int × Int => AVal.agg [(fun z : Int => AVal.lit (.int .i64 z)) x.1, (fun z : Int => AVal.lit (.int .i64 z)) x.2])
theorem op136 : ∃ good, OpensS Tryz.prog 136 Nws.enc good := ⟨_, openS_iso (f := opF136) (f' := Nws.enc) (fun x => Nws.mk x.1 x.2) (fun p => (p.view, p.src)) (fun _ => rfl) (fun _ => rfl) (fun _ => rfl) (openS_struct Tryz.underlying136 (by kernel_rfl) (openF_cons (off := 0) (off' := 1) (n := 1) (m := 1) rfl (by kernel_rfl) rfl (openS_int Tryz.underlying2 (by kernel_rfl)) (openF_last (off := 1) (n := 1) rfl (by kernel_rfl) (openS_int Tryz.underlying2 (by kernel_rfl)))))⟩
noncomputable def opF50 : Int × Int × Int × Int × Int × Int × Prf × List Blk × List Vot × List Nws × List Int → AVal := (fun x : Int × Int × Int × Int × Int × Int × Prf × List Blk × List Vot × List Nws × List Int => AVal.agg [(fun z : Int => AVal.lit (.int .i64 z)) x.1, (fun z : Int => AVal.lit (.int .i64 z)) x.2.1, (fun z : Int => AVal.lit (.int .i64 z)) x.2.2.1, (fun z : Int => AVal.lit (.int .i64 z)) x.2.2.2.1, (fun z : Int => AVal.lit (.int .i64 z)) x.2.2.2.2.1, (fun z : Int => AVal.lit (.int .i64 z)) x.2.2.2.2.2.1, (Prf.enc false) x.2.2.2.2.2.2.1, (fun l : List Blk => AVal.lst false 8 (l.map (Blk.enc false))) x.2.2.2.2.2.2.2.1, (fun l : List Vot => AVal.lst false 4 (l.map Vot.enc)) x.2.2.2.2.2.2.2.2.1, (fun l : List Nws => AVal.lst false 2 (l.map Nws.enc)) x.2.2.2.2.2.2.2.2.2.1, (fun l : List Int => AVal.lst false 1 (l.map (fun z : Int => AVal.lit (.int .i64 z)))) x.2.2.2.2.2.2.2.2.2.2])
theorem op50 : ∃ good, OpensS Tryz.prog 50 (Rpl.enc false) good := ⟨_, openS_iso (f := opF50) (f' := (Rpl.enc false)) (fun x => Rpl.mk x.1 x.2.1 x.2.2.1 x.2.2.2.1 x.2.2.2.2.1 x.2.2.2.2.2.1 x.2.2.2.2.2.2.1 x.2.2.2.2.2.2.2.1 x.2.2.2.2.2.2.2.2.1 x.2.2.2.2.2.2.2.2.2.1 x.2.2.2.2.2.2.2.2.2.2) (fun p => (p.id, p.n, p.view, p.voted, p.locked, p.proposed, p.high, p.blocks, p.votes, p.news, p.done)) (fun _ => rfl) (fun _ => rfl) (fun _ => rfl) (openS_struct Tryz.underlying50 (by kernel_rfl) (openF_cons (off := 0) (off' := 1) (n := 1) (m := 13) rfl (by kernel_rfl) rfl (openS_int Tryz.underlying2 (by kernel_rfl)) (openF_cons (off := 1) (off' := 2) (n := 1) (m := 12) rfl (by kernel_rfl) rfl (openS_int Tryz.underlying2 (by kernel_rfl)) (openF_cons (off := 2) (off' := 3) (n := 1) (m := 11) rfl (by kernel_rfl) rfl (openS_int Tryz.underlying2 (by kernel_rfl)) (openF_cons (off := 3) (off' := 4) (n := 1) (m := 10) rfl (by kernel_rfl) rfl (openS_int Tryz.underlying2 (by kernel_rfl)) (openF_cons (off := 4) (off' := 5) (n := 1) (m := 9) rfl (by kernel_rfl) rfl (openS_int Tryz.underlying2 (by kernel_rfl)) (openF_cons (off := 5) (off' := 6) (n := 1) (m := 8) rfl (by kernel_rfl) rfl (openS_int Tryz.underlying2 (by kernel_rfl)) (openF_cons (off := 6) (off' := 10) (n := 4) (m := 4) rfl (by kernel_rfl) rfl op45.choose_spec (openF_cons (off := 10) (off' := 11) (n := 1) (m := 3) rfl (by kernel_rfl) rfl (openS_slice (P := Tryz.prog) (sz := 8) 112 Tryz.underlying46 (by kernel_rfl) (by kernel_rfl) (by decide) (by kernel_rfl) op120.choose_spec) (openF_cons (off := 11) (off' := 12) (n := 1) (m := 2) rfl (by kernel_rfl) rfl (openS_slice (P := Tryz.prog) (sz := 4) 32 Tryz.underlying47 (by kernel_rfl) (by kernel_rfl) (by decide) (by kernel_rfl) op134.choose_spec) (openF_cons (off := 12) (off' := 13) (n := 1) (m := 1) rfl (by kernel_rfl) rfl (openS_slice (P := Tryz.prog) (sz := 2) 16 Tryz.underlying48 (by kernel_rfl) (by kernel_rfl) (by decide) (by kernel_rfl) op136.choose_spec) (openF_last (off := 13) (n := 1) rfl (by kernel_rfl) (openS_slice (P := Tryz.prog) (sz := 1) 8 Tryz.underlying24 (by kernel_rfl) (by kernel_rfl) (by decide) (by kernel_rfl) (openS_int Tryz.underlying2 (by kernel_rfl)))))))))))))))⟩
theorem door_met (os : Os) (args : Array Value) : laidMetH Tryz.prog [("math/bits.deBruijn32tab", Rows.laid_math_bits_deBruijn32tab), ("math/bits.deBruijn64tab", Rows.laid_math_bits_deBruijn64tab), ("internal/strconv.uint64pow10", Rows.laid_internal_strconv_uint64pow10), ("unicode/utf8.acceptRanges", Rows.laid_unicode_utf8_acceptRanges), ("strconv.ErrRange", Rows.laid_strconv_ErrRange), ("strconv.ErrSyntax", Rows.laid_strconv_ErrSyntax), ("unicode/utf8.first", Rows.laid_unicode_utf8_first)] ((World.laidAll Tryz.prog os [("math/bits.deBruijn32tab", Rows.laid_math_bits_deBruijn32tab), ("math/bits.deBruijn64tab", Rows.laid_math_bits_deBruijn64tab), ("internal/strconv.uint64pow10", Rows.laid_internal_strconv_uint64pow10), ("unicode/utf8.acceptRanges", Rows.laid_unicode_utf8_acceptRanges), ("strconv.ErrRange", Rows.laid_strconv_ErrRange), ("strconv.ErrSyntax", Rows.laid_strconv_ErrSyntax), ("unicode/utf8.first", Rows.laid_unicode_utf8_first)]).forCall (fun _ _ => 0) ⟨#[], args, []⟩).memory :=
  by rw [MakeChecks.laidMetH_plain _ _ _ (by kernel_rfl)]; exact laidMet_laidAll _ (by kernel_rfl) (by kernel_rfl)
theorem wrap {a : Assume} {C : Checked} {os : Os} {H : Type} {enc : TypeId × Value → H} {f : FuncId} {fn : Func} {s : ChangeSpec} {conds : List PathCond} {apart fresh handsOn again : Bool} {X : World → Array Value → Prop}
    (hX : ∀ (w w' : World) (args : Array Value), w.heap = w'.heap → X w args → X w' args)
    (own : ownKnob C.prog.godebug = none) (started : os.Started) (noInit : C.prog.inits.idxOf? f = none) (hfn : C.prog.funcs[f]? = some fn)
    (witness : ∃ (w : World) (tape : Tape) (i : Input), w.os = os ∧ (w.forCall tape i).Shaped C.prog ∧ i.vars = [] ∧ Input.okWide C.prog (w.forCall tape i) .any w.heap.size f i ∧
      ((s.pre enc C.prog fn conds apart (w.forCall tape i).memory i.args ∧ X (w.forCall tape i).memory i.args) ∧ sizedMet enc C.prog fn (OpenSpec.ofChange s) apart (w.forCall tape i).memory i.args) ∧ a.holds C.prog (lone (Frame.enter C.prog f i.args .normal) [] (w.forCall tape i)))
    (contract : ∀ (W : World) (base : Nat) (args : Array Value) (ds gs : List (DataW H)) (before : List MemPlace),
      (∀ (j : Nat) t v, fn.params[j]? = some t → args[j]? = some v → Value.okWide C.prog W .any base t v) →
      DataW.Whole enc C.prog fn.params.toList s.vars apart W args.toList ds gs before →
      (DataW.weightsEach C.prog (fn.params.toList ++ s.plain.varTypes C.prog) (ds ++ gs)).all (· ≤ reachBytes) = true → X W args → W.ShapedOpen C.prog →
      Calls C.prog f args W fun e W' => ∃ v, e = .returned v ∧ s.post enc C.prog fn apart fresh handsOn again W args v W') :
    ReturnsInHanded a C os f .any (fun w args => (s.pre enc C.prog fn conds apart w args ∧ X w args) ∧ sizedMet enc C.prog fn (OpenSpec.ofChange s) apart w args) (s.post enc C.prog fn apart fresh handsOn again) := by
  refine returnsInHanded_of_calls own started noInit witness ?_
  intro w tape i _ hsh _ hok hpre hholds
  obtain ⟨_, _, _, fn', hfn', _, _, _, _, hval⟩ := hok
  have e : fn' = fn := Option.some.inj (hfn'.symm.trans hfn)
  subst e
  obtain ⟨⟨⟨ds, gs, before, hw, hc⟩, hx⟩, hz⟩ := hpre
  have hw' := DataW.Whole.of_heap (w' := w.forCall tape i) (by rfl) hw
  refine (contract (w.forCall tape i) w.heap.size i.args ds gs before hval hw' (hz.weights hw) (hX _ _ _ (by rfl) hx) hsh).mono fun e W' ⟨v, he, hp⟩ => ?_
  subst he
  exact ChangeSpec.post_blind hp
theorem gl_of {W : World} (h : laidMetH Tryz.prog [("math/bits.deBruijn32tab", Rows.laid_math_bits_deBruijn32tab), ("math/bits.deBruijn64tab", Rows.laid_math_bits_deBruijn64tab), ("internal/strconv.uint64pow10", Rows.laid_internal_strconv_uint64pow10), ("unicode/utf8.acceptRanges", Rows.laid_unicode_utf8_acceptRanges), ("strconv.ErrRange", Rows.laid_strconv_ErrRange), ("strconv.ErrSyntax", Rows.laid_strconv_ErrSyntax), ("unicode/utf8.first", Rows.laid_unicode_utf8_first)] W) (hs : W.ShapedOpen Tryz.prog) : gz.Gl W ∧ gz.ng ≤ W.heap.size := by
  rw [MakeChecks.laidMetH_plain _ _ _ (by kernel_rfl)] at h
  have t1 := h.tail.tail
  have tab : Lib.TabIs Tryz.prog W "internal/strconv.uint64pow10" .u64 Lib.pow10Tab :=
    Lib.tabIs_of_head (g := 5) (t := 232) (e := 163) (n := 20) (zs := Lib.pow10Tab) (by kernel_rfl) (by kernel_rfl) Tryz.underlying232 Tryz.underlying163 (by kernel_rfl) (by kernel_rfl) t1
  have hrow : ∀ u, Tryz.prog.typeName? 3 u = some "*errors.errorString" → u = 228 := typeName_ptr_named (nm := "errors.errorString") (by kernel_rfl) (by kernel_rfl) (by decide)
  have sent : ∀ {n : String} {g : Nat} {text : List UInt8} {r : List (String × DataW Unit)}, laidMet Tryz.prog ((n, .iface "*errors.errorString" (.ptr (.agg [.lit (.string text)]))) :: r) W → Tryz.prog.globalNamed n = some g → (Tryz.prog.globals[g]?).map (·.type) = some 156 →
      ∃ ev, W.cell? ⟨g, 0, none⟩ = some ev ∧ (ev = .nilIface ∨ ∃ te pe, ev = .iface te pe) := fun hl hg ht => by
    obtain ⟨a0, s0, hv, _⟩ := laid_sentinel hl hg ht Tryz.underlying156 hrow Tryz.underlying228 Tryz.underlying230 rfl rfl Tryz.underlying9 (by kernel_rfl) (by kernel_rfl)
    exact ⟨_, by have := World.var?_cell hg hv 0; simpa using this, .inr ⟨_, _, rfl⟩⟩
  refine ⟨⟨tab, cell_of_shapedOpen_int (t := 3) (zero := #[.int .i64 0]) hs (Nat.le_of_ble_eq_true (by kernel_rfl)) (by kernel_rfl) rfl (by kernel_rfl) (by kernel_rfl) Tryz.underlying3, sent t1.tail.tail.tail (by kernel_rfl) (by kernel_rfl), sent t1.tail.tail (by kernel_rfl) (by kernel_rfl)⟩, ?_⟩
  obtain ⟨o, _, ho, _⟩ := hs.2 8 (Nat.le_of_ble_eq_true (by kernel_rfl)) (Nat.le_of_ble_eq_true (by kernel_rfl))
  have := (Array.getElem?_eq_some_iff.1 ho).1
  exact Nat.le_of_lt this
theorem lifted (os : Os) (started : os.Started) (H : Type) (enc : TypeId × Value → H) :
    ReturnsInHanded {} Tryz.checked os 4 .any (fun w args => (Rows.fnExactRanSpec.pre enc Tryz.prog Tryz.f4 [] false w args ∧ laidMetH Tryz.prog [("math/bits.deBruijn32tab", Rows.laid_math_bits_deBruijn32tab), ("math/bits.deBruijn64tab", Rows.laid_math_bits_deBruijn64tab), ("internal/strconv.uint64pow10", Rows.laid_internal_strconv_uint64pow10), ("unicode/utf8.acceptRanges", Rows.laid_unicode_utf8_acceptRanges), ("strconv.ErrRange", Rows.laid_strconv_ErrRange), ("strconv.ErrSyntax", Rows.laid_strconv_ErrSyntax), ("unicode/utf8.first", Rows.laid_unicode_utf8_first)] w) ∧ sizedMet enc Tryz.prog Tryz.f4 (OpenSpec.ofChange Rows.fnExactRanSpec) false w args) (Rows.fnExactRanSpec.post enc Tryz.prog Tryz.f4 false true false false) := by
  refine wrap (C := Tryz.checked) (X := fun w _ => laidMetH Tryz.prog [("math/bits.deBruijn32tab", Rows.laid_math_bits_deBruijn32tab), ("math/bits.deBruijn64tab", Rows.laid_math_bits_deBruijn64tab), ("internal/strconv.uint64pow10", Rows.laid_internal_strconv_uint64pow10), ("unicode/utf8.acceptRanges", Rows.laid_unicode_utf8_acceptRanges), ("strconv.ErrRange", Rows.laid_strconv_ErrRange), ("strconv.ErrSyntax", Rows.laid_strconv_ErrSyntax), ("unicode/utf8.first", Rows.laid_unicode_utf8_first)] w) (fun _ _ _ hh h => h.of_heap hh) own started (by kernel_rfl) Tryz.func4
    (ChangeSpec.witness_shaped (enc := enc) (C := Tryz.checked) (os := os) (X := fun w _ => laidMetH Tryz.prog [("math/bits.deBruijn32tab", Rows.laid_math_bits_deBruijn32tab), ("math/bits.deBruijn64tab", Rows.laid_math_bits_deBruijn64tab), ("internal/strconv.uint64pow10", Rows.laid_internal_strconv_uint64pow10), ("unicode/utf8.acceptRanges", Rows.laid_unicode_utf8_acceptRanges), ("strconv.ErrRange", Rows.laid_strconv_ErrRange), ("strconv.ErrSyntax", Rows.laid_strconv_ErrSyntax), ("unicode/utf8.first", Rows.laid_unicode_utf8_first)] w) false (World.laidAll Tryz.prog os [("math/bits.deBruijn32tab", Rows.laid_math_bits_deBruijn32tab), ("math/bits.deBruijn64tab", Rows.laid_math_bits_deBruijn64tab), ("internal/strconv.uint64pow10", Rows.laid_internal_strconv_uint64pow10), ("unicode/utf8.acceptRanges", Rows.laid_unicode_utf8_acceptRanges), ("strconv.ErrRange", Rows.laid_strconv_ErrRange), ("strconv.ErrSyntax", Rows.laid_strconv_ErrSyntax), ("unicode/utf8.first", Rows.laid_unicode_utf8_first)]) #[.agg #[.int .i64 0, .int .i64 0, .int .i64 0, .int .i64 0, .int .i64 0, .int .i64 0, .int .i64 0, .int .i64 0, .slice none 0 0, .slice none 0 0, .slice none 0 0, .slice none 0 0, .slice none 0 0, .slice none 0 0]] 8 (World.laidAll_os _ _ _) (World.shaped_of_ZipB (by kernel_rfl) (by kernel_rfl)) (by kernel_rfl) (by kernel_rfl) (by kernel_rfl) (door_met os _)) ?_
  intro W base args ds gs before hval0 hW hsz0 hL hSh
  have hsz : (DataW.weightsEach Tryz.prog (Tryz.f4.params.toList ++ Rows.fnExactRanSpec.plain.varTypes Tryz.prog) (ds ++ gs)).all (· ≤ reachBytes) = true := hsz0
  have hval : ∀ (j : Nat) t v, Tryz.f4.params[j]? = some t → args[j]? = some v → Value.okWide Tryz.prog W .any base t v := hval0
  have hW' := hW
  obtain ⟨p, q, hA0, hV, rfl, hfz, hnd⟩ := hW
  have hA : DataW.TrodAll enc Tryz.prog W 0 (fun _ => true) true Tryz.f4.params.toList args.toList ds p := hA0
  rw [Tryz.params4] at hA hval hsz
  obtain ⟨v0, vs0, d0, ds0, p0, q0, hargs0, hds0, hp0, h0, r0⟩ := trodAll_cons hA
  obtain ⟨rfl, rfl, rfl⟩ := trodAll_nil r0
  subst hds0 hp0
  obtain rfl : args = #[v0] := by cases args; simp_all
  obtain ⟨rfl, rfl⟩ := trodVars_none hV
  have k0 := h0
  have lt0 : ∀ x ∈ p0, x.block < W.heap.size := by obtain ⟨m, hm⟩ := k0; exact DataW.trod_lt m _ _ _ hm
  obtain ⟨c0, rfl, _⟩ := okWide_struct Tryz.underlying50 (hval 0 50 v0 rfl rfl)
  obtain ⟨x0, hk0, g0⟩ := openS_param op50.choose_spec h0 hsz (j := 0) rfl rfl
  clear hA0 hval0 hsz0
  have hG := gl_of hL hSh
  refine (VCalls.calls (ok4 x0) (W := W) (args := #[.agg c0]) (enterC f4_at (by kernel_rfl) (by kernel_rfl) _ _) hG.1 hG.2 rfl ?_).mono fun e W' he => ?_
  · intro i v x hi hx
    match i with
    | 0 =>
      simp only [List.getElem?_cons_zero, List.getElem?_cons_succ, Option.some.injEq] at hi hx
      cases hi
      cases hx
      exact .inl (.inr ⟨.shd hk0, rfl⟩)
    | i + 1 => simp at hx
  · obtain ⟨bel, v, y, x', S, o, rfl, rfl, hr⟩ := he
    obtain ⟨rfl, _⟩ := hr.lit
    exact ⟨_, rfl, _, _, _, [], _, [], hW', trodAll_mk1 (shut_bool Tryz.underlying4 _), (trodAll_cons_mk (Below.trod laidOut (by kernel_rfl) (of_decide_eq_true (by kernel_rfl)) k0 bel lt0) trodAll_mk0), rfl, bel.frame _, fun h => by cases h⟩
set_option maxHeartbeats 4000000 in
theorem closed : joinedFacts Tryz.prog 4 Tryz.f4 Rows.fnExactRanSpec Rows.fnExactRanRow = true := by
  unfold joinedFacts
  simp only [Bool.and_eq_true]
  repeat' refine And.intro ?_ ?_
  all_goals as_aux_lemma => kernel_rfl
theorem inst : (Tryz.f4).isInstance Tryz.prog Rows.fnExactRanRow.origin Rows.fnExactRanRow.targs := of_decide_eq_true (by kernel_rfl)
theorem wrapper : (Tryz.f4).isWrapper Tryz.prog Rows.fnExactRanRow.wrapper Rows.fnExactRanRow.mainSum := by
  unfold Func.isWrapper; first | (rw [if_pos (by decide +kernel)]; kernel_rfl) | (rw [if_neg (by decide +kernel)]; exact ⟨rfl, rfl⟩)
theorem rowHolds : Rows.FnExactRanSaid :=
  OpenClaim.holds_of_wide 4 Tryz.f4 rfl rfl rfl rfl rfl rfl rfl ⟨rfl, rfl, rfl, rfl, rfl⟩ rfl rfl rfl rfl rfl (by as_aux_lemma => kernel_rfl) Tryz.func4 closed inst wrapper
    (fun os started H enc _ => lifted os started H enc)
end Go.Proofs.YtdbfhpndlocilaaGreatDoor.fnExactRan
