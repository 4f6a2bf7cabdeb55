/- VS, twelfth part: the operations are sound (3). -/
import Derived.Test.YtejhoajebbigbaaGreatDoorVb
import Derived.MapKept
import Derived.Lib.SliceRun
import Derived.Laws.BytesString
import Derived.Laws.BytesArg
import Derived.Lib.ConvBytes
import Derived.Laws.MakeOwn
set_option linter.unusedVariables false
set_option linter.unusedSimpArgs false
namespace Go.VS
variable {c : Ctx} {w0 : World} {S0 : Nat -> Prop} {o0 : Own} {cargs : Array Value} {e : Env} {a : Act} {w : World} {S : Nat -> Prop} {ow : Own}
section
variable {rid t : Nat} {o : Oper} {K : AVal -> Env -> Prop}
theorem St.content (s : St c w0 S0 o0 cargs e a w S ow) {l : Loc} {node : AVal} (hg : getE e l = some node) {i : Nat} {fs : List Nat} {off : Nat} {y : AVal} (hy : nodeAt i fs node = some (off, y)) {b : Nat} (hb : ow b = some l) :
  ∃ cur t1 fr, w.heap[b]? = some (.cells cur t1 fr) /\ off + y.w <= cur.size /\ frOk fr cur.size /\ Rep w.heap S ow ((l.idx i).flds fs) ((cur.toList.drop off).take y.w) y := by
 have hno : ownNode node = true := by
  unfold nodeAt at hy
  split at hy <;> first | rfl | cases hy
 obtain ⟨cn, rn⟩ := (s.env l.r).node (p := l.p) hg hno
 have el : (⟨l.r, []⟩ : Loc).ext l.p = l := by simp [Loc.ext]
 rw [el] at rn
 cases node with
 | lst own sz xs =>
  cases own with
  | false => simp [ownNode] at hno
  | true =>
   rcases rn.lst_inv with ⟨_, rfl⟩ | ⟨b', cap, cur1, e1, fr1, rfl, hb1, ho1, hfr, hsz, hlen, hcap, hnr, hm1⟩
   ·simp [nodeAt] at hy
   ·obtain rfl := s.wo.inj _ _ _ hb ho1
    simp only [nodeAt] at hy
    split at hy
    ·rename_i x hx
     split at hy
     ·rename_i off' y0 hy0
      simp only [Option.some.injEq, Prod.mk.injEq] at hy
      obtain ⟨rfl, rfl⟩ := hy
      have rx := hm1 i x hx
      have h3 := (rx.getF hy0)
      have h4 := rx.len
      have hi : i < xs.length := (List.getElem?_eq_some_iff.1 hx).1
      have : (i + 1) * sz <= cap * sz := Nat.mul_le_mul_right _ (by omega)
      rw [Nat.add_mul, Nat.one_mul] at this
      have h5 := h3.1
      simp at h5 h4
      refine ⟨cur1, e1, fr1, hb1, by omega, hfr, ?_⟩
      have e2 : (List.take y0.w (List.drop off' (List.take sz (List.drop (i * sz) cur1.toList)))) = List.take y0.w (List.drop (i * sz + off') cur1.toList) := by
       apply List.ext_getElem?
       intro j
       simp only [List.getElem?_take, List.getElem?_drop]
       repeat' split
       all_goals first
        | rfl
        | omega
        | (congr 1; omega)
      rw [<- e2]
      exact h3.2
     ·cases hy
    ·cases hy
 | ptr own x =>
  cases own with
  | false => simp [ownNode] at hno
  | true =>
   obtain ⟨b', cur1, e1, fr1, rfl, hb1, ho1, hfr, rx⟩ := rn.ptr_inv
   obtain rfl := s.wo.inj _ _ _ hb ho1
   simp only [nodeAt] at hy
   split at hy
   ·rename_i hi
    subst hi
    have h3 := rx.getF hy
    have h5 := h3.1
    simp at h5
    exact ⟨cur1, e1, fr1, hb1, by omega, hfr, h3.2⟩
   ·cases hy
 | _ => simp [nodeAt] at hy
theorem ok_load (s : St c w0 S0 o0 cargs e a w S ow) (hc : constsOk c o.op = true) {ty : TypeId} {x : Operand} (ho : o.op = .load ty x)
  (h : match opV e x with
  | .ptr false y => y.w = c.g.P.cellsOf ty /\ 0 < y.w /\ aggT c.g.P ty = some (isAggA y) /\ K y e
  | .adr l i fs off => match getE e l with
   | some node => match nodeAt i fs node with
    | some (off', y) => off' = off /\ y.w = c.g.P.cellsOf ty /\ 0 < y.w /\ aggT c.g.P ty = some (isAggA y) /\ K (copyOut ((l.idx i).flds fs) y) e
    | none => False
   | none => False
  | _ => False) :
  POut c a w S ow o t e K := by
 have r := opV_sound s x (constsOk_mem hc (by simp [ho, Op.operands])) ⟨t, []⟩
 split at h
 ·rename_i y hx
  rw [hx] at r
  obtain ⟨h1, h2, h3, h4⟩ := h
  obtain ⟨_, b, off, cur, t1, fr, hv, hb, hS, hfit, hr⟩ := (r.one (by simp) rfl (by simp)).shd_ptr_inv.ptr_inv
  simp only [List.cons.injEq, and_true] at hv
  obtain ⟨v, hrun, hrep⟩ := load_rep c.g.P w ty hb h2 h1 h3 (l := ⟨t, []⟩) (ow := ow) hfit (.shd hr)
  exact ⟨v, fun w' hw' => by simp [execOp, ho, hv, Instr.loadAt, Instr.sureAddr, hrun w' (hw' (by rw [ho]; rfl) b (Array.getElem?_eq_some_iff.1 hb).1)], _, h4, hrep⟩
 ·rename_i l i fs off hx
  rw [hx] at r
  split at h
  ·rename_i node hg
   split at h
   ·rename_i off' y hy
    obtain ⟨rfl, h1, h2, h3, h4⟩ := h
    obtain ⟨b, cur, t1, fr, hv, hb, hob⟩ := (r.one (by simp) rfl (by simp)).adr_inv
    simp only [List.cons.injEq, and_true] at hv
    obtain ⟨cur', t1', fr', hb', hfit, hfr, hr⟩ := s.content hg hy hob
    obtain ⟨v, hrun, hrep⟩ := load_rep c.g.P w ty hb' h2 h1 h3 (ow := ow) hfit hr
    exact ⟨v, fun w' hw' => by simp [execOp, ho, hv, Instr.loadAt, Instr.sureAddr, hrun w' (hw' (by rw [ho]; rfl) b (Array.getElem?_eq_some_iff.1 hb).1)], _, h4, (hrep.copy _)⟩
   ·exact h.elim
  ·exact h.elim
 ·exact h.elim
theorem fieldT_ok {P : Program} {ty : TypeId} {k fo : Nat} {ft : TypeId} (h : fieldT P ty k = some (fo, ft)) : ∃ fs f i, P.underlying ty = some (.struct fs) /\ fs[k]? = some f /\ f.offset = fo /\ f.type = ft /\ P.info? ft = some i /\ i.size ≠ 0 /\ i.size = P.cellsOf ft := by
 unfold fieldT at h
 split at h
 ·rename_i fs hu
  split at h
  ·rename_i f hf
   split at h
   ·rename_i hp
    cases h
    obtain ⟨i, hi, his⟩ := cellsOf_pos hp
    exact ⟨fs, f, i, hu, hf, rfl, rfl, hi, by omega, his⟩
   ·cases h
  ·cases h
 ·cases h
theorem run_fieldAt {P : Program} {ty : TypeId} {k fo : Nat} {ft : TypeId} (h : fieldT P ty k = some (fo, ft)) (w : World) (b off : Nat) :
  (Instr.fieldAt ty (.pointer (some ⟨b, off, none⟩)) k).run P w = .ok (.pointer (some ⟨b, off + fo, none⟩)) w := by
 obtain ⟨fs, f, i, hu, hf, rfl, rfl, hi, hne, _⟩ := fieldT_ok h
 have : (⟨b, off, none⟩ : Addr).add f.offset = ⟨b, off + f.offset, none⟩ := by unfold Addr.add; split <;> simp_all
 simp [Instr.fieldAt, run_underlying hu, hf, Instr.sureAddr, fieldPlace, sizeOf, typeInfo, hi, hne, this]
theorem getF_one {k off : Nat} {x z : AVal} (h : getF [k] x = some (off, z)) : ∃ xs, x = .agg xs /\ xs[k]? = some z /\ off = AVal.ws (xs.take k) := by
 cases x <;> simp only [getF] at h <;> try (cases h; done)
 rename_i xs
 split at h
 ·rename_i y hy
  cases h
  exact ⟨xs, rfl, hy, rfl⟩
 ·cases h
theorem RepS.getF {h : Array Obj} {cs : List Value} {x : AVal} (r : RepS h S cs x) {k off : Nat} {y : AVal} (hg : VS.getF [k] x = some (off, y)) : off + y.w <= cs.length /\ RepS h S ((cs.drop off).take y.w) y := by
 obtain ⟨xs, rfl, hy, rfl⟩ := getF_one hg
 cases r with
 | agg a b =>
  rename_i css
  have hk : k < css.length := a ▸ (List.getElem?_eq_some_iff.1 hy).1
  have hc : css[k]? = some css[k] := List.getElem?_eq_getElem hk
  obtain ⟨e1, e2⟩ := flatten_at a (fun i c x hc hx => (b i c x hc hx).len) hc
  have hl := (b k _ y hc hy).len
  rw [e1]
  refine ⟨by simp only [List.length_append, e2]; omega, ?_⟩
  rw [<- e2, List.drop_append, List.drop_of_length_le (Nat.le_refl _), List.nil_append, Nat.sub_self, List.drop_zero, <- hl, List.take_left]
  exact b k _ y hc hy
theorem ok_fieldAddr (s : St c w0 S0 o0 cargs e a w S ow) (hc : constsOk c o.op = true) {ty : TypeId} {x : Operand} {k : Nat} (ho : o.op = .fieldAddr ty x k)
  (h : match fieldT c.g.P ty k, opV e x with
  | some (fo, _), .adr l i fs off => K (.adr l i (fs ++ [k]) (off + fo)) e
  | some (fo, _), .ptr false y => match getF [k] y with
   | some (fo', z) => fo' = fo /\ 0 < z.w /\ K (.ptr false z) e
   | none => False
  | _, _ => False) :
  POut c a w S ow o t e K := by
 have r := opV_sound s x (constsOk_mem hc (by simp [ho, Op.operands])) ⟨t, []⟩
 split at h
 ·rename_i fo ft l i fs off hf hx
  rw [hx] at r
  obtain ⟨b, cur, t1, fr, hv, hb, hob⟩ := (r.one (by simp) rfl (by simp)).adr_inv
  simp only [List.cons.injEq, and_true] at hv
  exact ⟨_, fun w' hw' => by simp [execOp, ho, hv, run_fieldAt hf], _, h, (.mk rfl rfl (.adr hb hob))⟩
 ·rename_i fo ft y hf hx
  rw [hx] at r
  split at h
  ·rename_i fo' z hz
   obtain ⟨rfl, hp, hK⟩ := h
   obtain ⟨_, b, off, cur, t1, fr, hv, hb, hS, hfit, hr⟩ := (r.one (by simp) rfl (by simp)).shd_ptr_inv.ptr_inv
   simp only [List.cons.injEq, and_true] at hv
   obtain ⟨h1, h2⟩ := hr.getF hz
   have h3 : fo' + z.w <= y.w := by simp at h1; omega
   have e2 : List.take z.w (List.drop fo' (List.take y.w (List.drop off cur.toList))) = List.take z.w (List.drop (off + fo') cur.toList) := by
    apply List.ext_getElem?
    intro j
    simp only [List.getElem?_take, List.getElem?_drop]
    repeat' split
    all_goals first
     | rfl
     | omega
     | (congr 1; omega)
   rw [e2] at h2
   exact ⟨_, fun w' hw' => by simp [execOp, ho, hv, run_fieldAt hf], _, hK, (.mk rfl rfl (.shd (.ptr hb hS (by omega) h2)))⟩
  ·exact h.elim
 ·exact h.elim
theorem elemT_ok {P : Program} {ty el : TypeId} (h : elemT P ty = some el) : P.underlying ty = some (.slice el) := by
 unfold elemT at h
 split at h
 ·rename_i e hu; cases h; exact hu
 ·cases h
theorem run_indexAt {P : Program} {ty el : TypeId} (h : elemT P ty = some el) {sz : Nat} (hsz : P.cellsOf el = sz) (hp : 0 < sz) (w : World) (b off len cap : Nat) (k : IntKind) (n : Int) (h0 : 0 <= n) (h1 : n < len) :
  (Instr.indexAt ty (.slice (some ⟨b, off, none⟩) len cap) (.int k n)).run P w = .ok (.pointer (some ⟨b, off + n.toNat * sz, none⟩)) w := by
 obtain ⟨i, hi, his⟩ := cellsOf_pos (hsz ▸ hp)
 have hu := elemT_ok h
 have hadd : ∀ m, (⟨b, off, none⟩ : Addr).add m = ⟨b, off + m, none⟩ := fun m => by unfold Addr.add; split <;> simp_all
 simp [Instr.indexAt, asIntOf, run_underlying hu, h0, h1, sizeOf, typeInfo, hi, his, hsz, hadd]
theorem ok_indexAddr (s : St c w0 S0 o0 cargs e a w S ow) (hc : constsOk c o.op = true) {ty : TypeId} {x i : Operand} (ho : o.op = .indexAddr ty x i)
  (h : match elemT c.g.P ty, opV e i with
  | some el, .lit (.int _ n) => match opV e x with
   | .lst false sz xs => c.g.P.cellsOf el = sz /\ 0 < sz /\ 0 <= n /\ n < xs.length /\ ∃ y, xs[n.toNat]? = some y /\ K (.ptr false y) e
   | .href l sz lo m => c.g.P.cellsOf el = sz /\ 0 < sz /\ 0 <= n /\ n < m /\ K (.adr l (lo + n.toNat) [] ((lo + n.toNat) * sz)) e
   | _ => False
  | _, _ => False) :
  POut c a w S ow o t e K := by
 have r := opV_sound s x (constsOk_mem hc (by simp [ho, Op.operands])) ⟨t, []⟩
 have ri := opV_sound s i (constsOk_mem hc (by simp [ho, Op.operands])) ⟨t, []⟩
 split at h
 ·rename_i el k n hel hi
  rw [hi] at ri
  obtain ⟨hvi, _⟩ := ri.lit
  split at h
  ·rename_i sz xs hx
   rw [hx] at r
   obtain ⟨h1, h2, h3, h4, y, hy, hK⟩ := h
   rcases (r.one (by simp) rfl (by simp)).shd_lst_inv.lst_inv with ⟨_, ⟨ad, cap, _, rfl, _⟩ | ⟨b, off, cap, cur, t1, fr, hv, hb, hS, hfit, hcap, hmx, hm⟩⟩
   ·simp at hy
   ·simp only [List.cons.injEq, and_true] at hv
    have hry := hm _ y hy
    have hl := hry.len
    have hi : n.toNat < xs.length := (List.getElem?_eq_some_iff.1 hy).1
    have : (n.toNat + 1) * sz <= xs.length * sz := Nat.mul_le_mul_right _ (by omega)
    rw [Nat.add_mul, Nat.one_mul] at this
    have hl' : y.w = sz := by rw [<- hl]; simp; omega
    refine ⟨.pointer (some ⟨b, off + n.toNat * sz, none⟩), fun w' hw' => by simp [execOp, ho, hv, hvi, run_indexAt hel h1 h2 w' b off xs.length cap k n h3 h4], _, hK, (.mk rfl rfl (.shd (.ptr hb hS ?_ ?_)))⟩
    ·omega
    ·rw [hl']; exact hry
  ·rename_i l sz lo m hx
   rw [hx] at r
   obtain ⟨h1, h2, h3, h4, hK⟩ := h
   rcases (r.one (by simp) rfl (by simp)).href_inv with ⟨_, _, rfl⟩ | ⟨b, cap, cur, t1, fr, hv, hb, hob, hfr, hsz, hlen, hcap⟩
   ·simp at h4; omega
   ·simp only [List.cons.injEq, and_true] at hv
    refine ⟨_, fun w' hw' => by simp [execOp, ho, hv, hvi, run_indexAt hel h1 h2 w' b (lo * sz) m cap k n h3 h4]; rfl, _, hK, ?_⟩
    rw [<- Nat.add_mul]
    exact .mk rfl rfl (.adr hb hob)
  ·exact h.elim
 ·exact h.elim
theorem ok_index (s : St c w0 S0 o0 cargs e a w S ow) (hc : constsOk c o.op = true) {ty : TypeId} {x i : Operand} (ho : o.op = .index ty x i)
  (h : match opV e x, opV e i, c.g.P.underlying ty with
  | .lit (.string s), .lit (.int _ n), some .string => 0 <= n /\ n < s.size /\ K (.lit (.int .u8 (s.data.toList.getD n.toNat 0).toNat)) e
  | _, _, _ => False) :
  POut c a w S ow o t e K := by
 have r := opV_sound s x (constsOk_mem hc (by simp [ho, Op.operands])) ⟨t, []⟩
 have ri := opV_sound s i (constsOk_mem hc (by simp [ho, Op.operands])) ⟨t, []⟩
 split at h
 ·rename_i str k n hx hi hu
  rw [hi] at ri
  rw [hx] at r
  obtain ⟨hvi, _⟩ := ri.lit
  obtain ⟨hv, _⟩ := r.lit
  obtain ⟨h0, h1, hK⟩ := h
  have hlt : n.toNat < str.size := by omega
  have hlt' : n.toNat < str.data.size := hlt
  have hget : str[n.toNat]? = some (str.data.toList.getD n.toNat 0) := by
   rw [getElem?_pos str n.toNat hlt]
   have h2 : str.data.toList.getD n.toNat 0 = str.data[n.toNat] := by
    rw [List.getD_eq_getElem?_getD, Array.getElem?_toList, Array.getElem?_eq_getElem hlt']; rfl
   rw [h2]
   rfl
  generalize str.data.toList.getD n.toNat 0 = u at *
  refine ⟨.int .u8 u.toNat, fun w' hw' => by simp [execOp, ho, hv, hvi, Instr.index, asIntOf, run_underlying hu, h0, hget], _, hK, (.mkLit ?_)⟩
  have := u.toNat_lt
  simp only [litOk, IntKind.min, IntKind.max, IntKind.bits, IntKind.signed]
  simp
  omega
 ·exact h.elim
theorem Rep.no_tup {h : Array Obj} {l : Loc} {cs : List Value} {xs : List AVal} (r : Rep h S ow l cs (.tup xs)) : False := by
 cases r with | shd a => cases a
theorem ok_extract (s : St c w0 S0 o0 cargs e a w S ow) (hc : constsOk c o.op = true) {x : Operand} {i : Nat} (ho : o.op = .extract x i)
  (h : match (generalizing := false) x with
  | .tmp q => match e q with
   | .tup xs => match xs[i]? with
    | some y => K (copyOut ⟨q, [.fld i]⟩ y) e
    | none => False
   | _ => False
  | _ => False) :
  POut c a w S ow o t e K := by
 cases x with
 | tmp q =>
  simp only at h
  split at h
  ·rename_i xs hx
   split at h
   ·rename_i y hy
    have r := s.env q
    rw [hx] at r
    rcases r with (h1 | ⟨h1, _⟩) | ⟨vs, ys, h1, h2, h3, h4⟩
    ·cases h1
    ·exact h1.no_tup.elim
    ·cases h1
     have hi : i < vs.size := h3 ▸ (List.getElem?_eq_some_iff.1 hy).1
     have hvi : vs[i]? = some vs[i] := Array.getElem?_eq_getElem hi
     have r1 := (h4 i _ y hvi hy).copy ⟨t, []⟩
     have he : a.eval (.tmp q) = .tuple vs := (s.tvEval (constsOk_mem hc (by simp [ho, Op.operands]))).symm.trans h2
     exact ⟨vs[i], fun w' hw' => by simp [execOp, ho, he, Instr.extract, hvi], _, h, (.inl r1)⟩
   ·exact h.elim
  ·exact h.elim
 | _ => exact h.elim
end
end Go.VS
/- VS, thirteenth part: the operations are sound (4). -/
set_option linter.unusedVariables false
set_option linter.unusedSimpArgs false
namespace Go.VS
variable {c : Ctx} {w0 : World} {S0 : Nat -> Prop} {o0 : Own} {cargs : Array Value} {e : Env} {a : Act} {w : World} {S : Nat -> Prop} {ow : Own}
section
variable {rid t : Nat} {o : Oper} {K : AVal -> Env -> Prop}
theorem litOk_len {n : Nat} (h : n <= maxLen) : litOk (.int .i64 n) := by
 simp only [litOk, IntKind.min, IntKind.max, IntKind.bits, IntKind.signed, maxLen] at *
 simp at *
 omega
theorem ok_len (s : St c w0 S0 o0 cargs e a w S ow) (hc : constsOk c o.op = true) {args : Array Operand} {argTypes : Array TypeId} (ho : o.op = .call { callee := .builtin .len, args, argTypes })
  (h : match args[0]?, argTypes[0]? with
  | some x, some ty => match opV e x with
   | .lit (.string s) => match c.g.P.underlying ty with
    | some .string => s.size <= maxLen -> K (.lit (.int .i64 s.size)) e
    | _ => False
   | .lst false _ xs => match c.g.P.underlying ty with
    | some (.slice _) => xs.length <= maxLen -> K (.lit (.int .i64 xs.length)) e
    | _ => False
   | .href _ _ _ n => match c.g.P.underlying ty with
    | some (.slice _) => n <= maxLen -> K (.lit (.int .i64 n)) e
    | _ => False
   | v => lenMp (fun y => K y e) (esOf e v) (c.g.P.underlying ty)
  | _, _ => False) :
  POut c a w S ow o t e K := by
 split at h
 ·rename_i x ty hx hty
  have hmem : x ∈ o.op.operands := by
   simp [ho, Op.operands, Call.operands]
   exact Array.mem_of_getElem? hx
  have r := opV_sound s x (constsOk_mem hc hmem) ⟨t, []⟩
  have hax : (args.map a.eval)[0]? = some (a.eval x) := by simp [hx]
  split at h
  ·rename_i str hv
   rw [hv] at r
   obtain ⟨hv, hl⟩ := r.lit
   split at h
   ·rename_i hu
    exact ⟨goInt str.size, fun w' hw' => by simp [execOp, ho, resolve, invoke, builtin, Builtin.len_, hty, hax, hv, run_underlying hu], _, (h hl), (.mkLit (litOk_len hl))⟩
   ·exact h.elim
  ·rename_i sz xs hv
   rw [hv] at r
   split at h
   ·rename_i el hu
    rcases (r.one (by simp) rfl (by simp)).shd_lst_inv.lst_inv with ⟨_, ⟨ad, cap, hc1, rfl, _⟩ | ⟨b, off, cap, cur, t1, fr, hc1, hb, hS, hfit, hcap, hmx, hm⟩⟩
    ·simp only [List.cons.injEq, and_true] at hc1
     exact ⟨goInt 0, fun w' hw' => by simp [execOp, ho, resolve, invoke, builtin, Builtin.len_, hty, hax, hc1, run_underlying hu], _, (h (Nat.zero_le _)), (.mkLit (litOk_len (n := 0) (Nat.zero_le _)))⟩
    ·simp only [List.cons.injEq, and_true] at hc1
     have hl : xs.length <= maxLen := by omega
     exact ⟨goInt xs.length, fun w' hw' => by simp [execOp, ho, resolve, invoke, builtin, Builtin.len_, hty, hax, hc1, run_underlying hu], _, (h hl), (.mkLit (litOk_len hl))⟩
   ·exact h.elim
  ·rename_i l sz lo n hv
   rw [hv] at r
   split at h
   ·rename_i el hu
    rcases (r.one (by simp) rfl (by simp)).href_inv with ⟨hc1, rfl, rfl⟩ | ⟨b, cap, cur, t1, fr, hc1, hb, hob, hfr, hsz, hlen, hcap⟩
    ·simp only [List.cons.injEq, and_true] at hc1
     exact ⟨goInt 0, fun w' hw' => by simp [execOp, ho, resolve, invoke, builtin, Builtin.len_, hty, hax, hc1, run_underlying hu], _, (h (Nat.zero_le _)), (.mkLit (litOk_len (n := 0) (Nat.zero_le _)))⟩
    ·simp only [List.cons.injEq, and_true] at hc1
     have hl : n <= maxLen := by omega
     exact ⟨goInt n, fun w' hw' => by simp [execOp, ho, resolve, invoke, builtin, Builtin.len_, hty, hax, hc1, run_underlying hu], _, (h hl), (.mkLit (litOk_len hl))⟩
   ·exact h.elim
  ·unfold lenMp at h
   split at h
   ·rename_i kt et hu
    split at h
    ·rename_i es hes
     have hrd : readsHeap c.g.P o.op = true := by simp [readsHeap, ho, hty, hu, isMapD]
     have fin : ∀ {b : Nat} {ms : Array MapEntry} {clock : Nat}, a.eval x = .map (some b) -> w.heap[b]? = some (.map ms clock) -> es = ms.toList.map (fun m => (m.key, m.val)) -> POut c a w S ow o t e K := fun {b ms clock} hx hb he => by
      have hel : es.length = ms.size := by rw [he]; simp
      refine ⟨goInt ms.size, fun w' hw' => ?_, _, h.2, by rw [hel]; exact .mkLit (litOk_len (by have := h.1; omega))⟩
      have hb' := (hw' hrd b (Array.getElem?_eq_some_iff.1 hb).1).trans hb
      simp [execOp, ho, resolve, invoke, builtin, Builtin.len_, hty, hax, hx, run_underlying hu, Go.MapKept.run_getObj_map hb']
     unfold esOf at hes
     split at hes
     ·rename_i l hx
      rw [hx] at r
      obtain ⟨b, ms, kk, hv, hb, hob⟩ := (r.one (by simp) rfl (by simp)).mref_inv
      simp only [List.cons.injEq, and_true] at hv
      unfold esQ at hes
      split at hes
      ·rename_i es' hg
       cases hes
       obtain ⟨cn, rn⟩ := (s.env l.r).node (p := l.p) hg rfl
       rw [show (⟨l.r, []⟩ : Loc).ext l.p = l by simp [Loc.ext]] at rn
       obtain ⟨b2, ms2, k2, _, hb2, hob2, he⟩ := rn.mp_inv
       have : b2 = b := s.wo.inj _ _ _ hob2 hob
       subst this
       exact fin hv hb2 he
      ·cases hes
     ·rename_i es' hx
      cases hes
      rw [hx] at r
      have hq := (r.one (by simp) rfl (by simp)).shd_mp_inv
      generalize hcs : [a.eval x] = cs at hq
      cases hq with
      | mp hb hS => exact fin (by simpa using hcs) hb rfl
      | mpNil =>
       have hx0 : a.eval x = .map none := by simpa using hcs
       exact ⟨goInt 0, fun w' hw' => by simp [execOp, ho, resolve, invoke, builtin, Builtin.len_, hty, hax, hx0, run_underlying hu], _, h.2, .mkLit (litOk_len (n := 0) (Nat.zero_le _))⟩
     ·cases hes
    ·exact h.elim
   ·exact h.elim
 ·exact h.elim
open Go.MapKept
def prM (m : MapEntry) : Value × Value := (m.key, m.val)
theorem keyB_is {d : TypeDesc} {k : Value} (h : keyB d k = true) : IsKey d k := by
 cases d <;> cases k <;> simp_all [keyB, IsKey]
theorem keyEq_iff {d : TypeDesc} {a b : Value} (ha : IsKey d a) (hb : IsKey d b) : keyEq a b = true ↔ a = b := by
 cases d <;> cases a <;> cases b <;> simp_all [IsKey, keyEq]
theorem findNow_mp {d : TypeDesc} {k : Value} (hk : IsKey d k) (v : Value) : ∀ (l : List MapEntry) (i : Nat), (∀ x ∈ l, IsKey d x.key) →
  (Instr.findNow d k l i = some none /\ mFind k (l.map prM) = none /\ mPut k v (l.map prM) = l.map prM ++ [(k, v)]) ∨
  ∃ j e, Instr.findNow d k l i = some (some (i + j, e.val)) /\ l[j]? = some e /\ e.key = k /\ mFind k (l.map prM) = some e.val /\ mPut k v (l.map prM) = (l.modify j fun e => { e with key := k, val := v }).map prM
 | [], _, _ => .inl ⟨rfl, rfl, rfl⟩
 | e :: es, i, h => by
  obtain ⟨r, hr, hiff⟩ := sameNow_of_keys hk (h e (.head _))
  have hq := keyEq_iff hk (h e (.head _))
  cases r with
  | true =>
   have he := hiff.1 rfl
   exact .inr ⟨0, e, by simp [Instr.findNow, hr], rfl, he.symm, by simp [mFind, prM, hq.2 he], by simp [mPut, prM, hq.2 he]⟩
  | false =>
   have hne : ¬ keyEq k (prM e).1 = true := fun q => by have := hiff.2 (hq.1 q); cases this
   rcases findNow_mp hk v es (i + 1) (fun x hx => h x (.tail _ hx)) with ⟨h1, h2, h3⟩ | ⟨j, e', h1, h2, h3, h4, h5⟩
   ·refine .inl ⟨by simp [Instr.findNow, hr, h1], ?_, ?_⟩
    ·rw [List.map_cons, mFind, if_neg hne, h2]
    ·rw [List.map_cons, mPut, if_neg hne, h3, List.cons_append]
   ·refine .inr ⟨j + 1, e', by simp [Instr.findNow, hr, h1]; omega, by simpa using h2, h3, ?_, ?_⟩
    ·rw [List.map_cons, mFind, if_neg hne, h4]
    ·rw [List.map_cons, mPut, if_neg hne, h5, List.modify_succ_cons, List.map_cons]
theorem mapT_ok {P : Program} {ty : TypeId} {d : TypeDesc} {el : TypeId} (h : mapT P ty = some (d, el)) : ∃ k, P.underlying ty = some (.map k el) /\ P.underlying k = some d := by
 unfold mapT at h
 split at h
 ·rename_i k el' hu
  refine ⟨k, ?_⟩
  unfold mapK at h
  split at h
  ·rename_i kk hk; cases h; exact ⟨hu, hk⟩
  ·rename_i hk; cases h; exact ⟨hu, hk⟩
  ·rename_i hk; cases h; exact ⟨hu, hk⟩
  ·cases h
 ·cases h
theorem ok_makeMap (s : St c w0 S0 o0 cargs e a w S ow) (ht : free ow t) (htn : t <= c.nt) {ty : TypeId} (ho : o.op = .makeMap ty none) (h : K (.mp true []) e) :
  ∃ v w1, (execOp a.eval o).run c.g.P w = .ok (.value v) w1 /\ Out c w0 S0 o0 cargs a w t ow K v w1 := by
 obtain ⟨s1, hold, hnew⟩ := s.alloc (.map #[] 0) (tl := ⟨t, []⟩) (fun b hb => ht b _ hb rfl) htn
 refine ⟨.map (some w.heap.size), w.alloc (.map #[] 0), ?_, .mp true [], e, S, _, h, s1, .mk rfl rfl (.mp (es := #[]) hnew (newO_at _ _ _)), newO_newAt ⟨[], by simp [Loc.ext]⟩, fun b hb => heap_alloc_old w _ b hb⟩
 simp [execOp, ho, Instr.makeMap]
section
variable {P : Program} {w : World} {ty kt el : TypeId} {d : TypeDesc} {k : Value}
theorem run_lookup_hit (hu : P.underlying ty = some (.map kt el)) (hd : P.underlying kt = some d) (hk : IsKey d k) {r clock : Nat} {ms : Array MapEntry} (hb : w.heap[r]? = some (.map ms clock)) {j : Nat} {v : Value} (hf : Instr.findNow d k ms.toList 0 = some (some (j, v))) (cok : Bool) :
  (Instr.lookup ty (.map (some r)) k cok).run P w = .ok (if cok then .tuple #[v, .bool true] else v) w := by
 simp [Instr.lookup, run_underlying hu, Go.MapKept.run_getObj_map hb, run_checkKey hd hk, run_findKey hd hf, Result.andThen]
theorem run_lookup_miss (hu : P.underlying ty = some (.map kt el)) (hd : P.underlying kt = some d) (hk : IsKey d k) {r clock : Nat} {ms : Array MapEntry} (hb : w.heap[r]? = some (.map ms clock)) (hf : Instr.findNow d k ms.toList 0 = some none) {i : TypeInfo} {z : Value} (hi : P.info? el = some i) (hz : i.zero = some z) (cok : Bool) :
  (Instr.lookup ty (.map (some r)) k cok).run P w = .ok (if cok then .tuple #[z, .bool false] else z) w := by
 simp [Instr.lookup, run_underlying hu, Go.MapKept.run_getObj_map hb, run_checkKey hd hk, run_findKey hd hf, zeroValue, typeInfo, hi, hz, Result.andThen]
theorem run_lookup_nil (hu : P.underlying ty = some (.map kt el)) (hd : P.underlying kt = some d) (hk : IsKey d k) {i : TypeInfo} {z : Value} (hi : P.info? el = some i) (hz : i.zero = some z) (cok : Bool) :
  (Instr.lookup ty (.map none) k cok).run P w = .ok (if cok then .tuple #[z, .bool false] else z) w := by
 have hf : Instr.findNow d k ([] : List MapEntry) 0 = some none := rfl
 simp [Instr.lookup, run_underlying hu, run_checkKey hd hk, run_findKey hd hf, zeroValue, typeInfo, hi, hz, Result.andThen]
end
theorem RepV1.mkLit {h : Array Obj} {l : Loc} {v : Value} (hv : litOk v) : RepV1 h S ow l v (.lit v) := by
 have h0 : isAggV v = false := by cases v <;> simp_all [litOk, isAggV]
 exact .inr ⟨by rw [isAggV_cells h0]; exact .shd (.lit hv), h0.symm⟩
theorem lookV_rep {h : Array Obj} {l : Loc} {v : Value} (hv : litOk v) (cok b : Bool) : RepV h S ow l (if cok = true then .tuple #[v, .bool b] else v) (lookV cok v b) := by
 cases cok
 ·exact .mkLit hv
 ·refine .inr ⟨#[v, .bool b], [.lit v, .lit (.bool b)], rfl, rfl, rfl, fun i u x hu hx => ?_⟩
  match i with
  | 0 =>
   obtain rfl : v = u := by simpa using hu
   obtain rfl : AVal.lit v = x := by simpa using hx
   exact .mkLit hv
  | 1 =>
   obtain rfl : Value.bool b = u := by simpa using hu
   obtain rfl : AVal.lit (.bool b) = x := by simpa using hx
   exact .mkLit trivial
  | i + 2 => simp at hu
theorem ok_lookup (s : St c w0 S0 o0 cargs e a w S ow) (hc : constsOk c o.op = true) {ty : TypeId} {x i : Operand} {cok : Bool} (ho : o.op = .lookup ty x i cok)
  (h : lookK c.g.P cok (fun v => K v e) (mapT c.g.P ty) (esOf e (opV e x)) (opV e i)) : ∃ v w1, (execOp a.eval o).run c.g.P w = .ok (.value v) w1 /\ Out c w0 S0 o0 cargs a w t ow K v w1 := by
 have rx := opV_sound s x (constsOk_mem hc (by simp [ho, Op.operands])) ⟨c.nt, []⟩
 have ri := opV_sound s i (constsOk_mem hc (by simp [ho, Op.operands])) ⟨c.nt + 1, []⟩
 unfold lookK at h
 split at h
 ·rename_i d el es k hmt hes hk
  obtain ⟨h1, h2, h⟩ := h
  obtain ⟨kt, hu, hd⟩ := mapT_ok hmt
  rw [hk] at ri
  obtain ⟨ek, _⟩ := ri.lit
  have hkk := keyB_is h1
  have run : ∀ {v : Value}, (Instr.lookup ty (a.eval x) k cok).run c.g.P w = .ok v w -> (execOp a.eval o).run c.g.P w = .ok (.value v) w := fun hr => by simp [execOp, ho, ek, hr]
  have hx : (a.eval x = .map none /\ es = []) \/ ∃ b ms clock, a.eval x = .map (some b) /\ w.heap[b]? = some (.map ms clock) /\ es = ms.toList.map prM := by
   unfold esOf at hes
   split at hes
   ·rename_i l hx
    rw [hx] at rx
    obtain ⟨b, ms, kk, hv, hb, hob⟩ := (rx.one (by simp) rfl (by simp)).mref_inv
    simp only [List.cons.injEq, and_true] at hv
    unfold esQ at hes
    split at hes
    ·rename_i es' hg
     cases hes
     obtain ⟨cn, rn⟩ := (s.env l.r).node (p := l.p) hg rfl
     rw [show (⟨l.r, []⟩ : Loc).ext l.p = l by simp [Loc.ext]] at rn
     obtain ⟨b2, ms2, k2, _, hb2, hob2, he⟩ := rn.mp_inv
     have : b2 = b := s.wo.inj _ _ _ hob2 hob
     subst this
     exact .inr ⟨_, ms2, k2, hv, hb2, he⟩
    ·cases hes
   ·rename_i es' hx
    cases hes
    rw [hx] at rx
    have hq := (rx.one (by simp) rfl (by simp)).shd_mp_inv
    generalize hcs : [a.eval x] = cs at hq
    cases hq with
    | mp hb hS => exact .inr ⟨_, _, _, by simpa using hcs, hb, rfl⟩
    | mpNil => exact .inl ⟨by simpa using hcs, rfl⟩
   ·cases hes
  have miss : mFind k es = none -> ∃ i z, c.g.P.info? el = some i /\ i.zero = some z /\ litOk z /\ K (lookV cok z false) e := fun hm => by
   rw [hm] at h
   unfold lookZ at h
   split at h
   ·rename_i hq; cases hq
   ·rename_i z hq hz
    obtain ⟨i, zv, hi, hzv, _, hag, hrep⟩ := zeroOf_ok (S := S) hz
    have r1 := (hrep w.heap ow ⟨0, []⟩).lit_inv
    have hzz : zv = z := by
     have h9 := isAggV_cells (show isAggV zv = false by rw [<- hag]; rfl)
     have := r1.1
     rw [h9] at this
     simpa using this
    subst hzz
    exact ⟨i, zv, hi, hzv, r1.2, h⟩
   ·exact h.elim
  rcases hx with ⟨hx, rfl⟩ | ⟨b, ms, clock, hx, hb, rfl⟩
  ·obtain ⟨i, z, hi, hz, hl, hK⟩ := miss rfl
   exact ⟨_, w, run (by rw [hx]; exact run_lookup_nil hu hd hkk hi hz cok), .same s hK (lookV_rep hl cok false)⟩
  ·have hks : ∀ m ∈ ms.toList, IsKey d m.key := fun m hm => keyB_is (h2 (prM m) (List.mem_map.2 ⟨m, hm, rfl⟩)).1
   rcases findNow_mp hkk .nilIface ms.toList 0 hks with ⟨f1, f2, _⟩ | ⟨j, ee, f1, f2, f3, f4, _⟩
   ·obtain ⟨i, z, hi, hz, hl, hK⟩ := miss f2
    exact ⟨_, w, run (by rw [hx]; exact run_lookup_miss hu hd hkk hb f1 hi hz cok), .same s hK (lookV_rep hl cok false)⟩
   ·rw [f4] at h
    have hl := (h2 (prM ee) (List.mem_map.2 ⟨ee, List.mem_of_getElem? f2, rfl⟩)).2
    exact ⟨_, w, run (by rw [hx]; exact run_lookup_hit hu hd hkk hb f1 cok), .same s h (lookV_rep hl cok true)⟩
 ·exact h.elim
theorem ok_mm (s : St c w0 S0 o0 cargs e a w S ow) (hc : constsOk c o.op = true) {mx : Bool} {args : Array Operand} {argTypes : Array TypeId} (ho : o.op = .call { callee := .builtin (if mx then .max else .min), args, argTypes })
  (h : mmL mx (args.toList.map (opV e)) fun v => K v e) : POut c a w S ow o t e K := by
 unfold mmL at h
 split at h
 ·rename_i vx vy hvs
  obtain ⟨xo, yo, rfl, rfl, rfl⟩ : ∃ xo yo, args = #[xo, yo] /\ opV e xo = vx /\ opV e yo = vy := by
   obtain ⟨as⟩ := args
   match as, hvs with
   | [xo, yo], hvs =>
    simp only [List.map_cons, List.map_nil, List.cons.injEq, and_true] at hvs
    exact ⟨xo, yo, rfl, hvs.1, hvs.2⟩
  have mem : ∀ {z : Operand}, z ∈ #[xo, yo] -> constOk c z = true := fun {z} hz => constsOk_mem hc (by
   rw [ho]
   simp only [Op.operands, Call.operands]
   exact Array.mem_append.2 (.inr hz))
  have rx := opV_sound s xo (mem (by simp)) ⟨t, []⟩
  have ry := opV_sound s yo (mem (by simp)) ⟨t, []⟩
  unfold mmK at h
  split at h
  ·rename_i k x k' y hx hy
   obtain ⟨rfl, h⟩ := h
   rw [hx] at rx
   rw [hy] at ry
   obtain ⟨ex, lx⟩ := rx.lit
   obtain ⟨ey, ly⟩ := ry.lit
   refine ⟨.int k' (mmV mx x y), fun w' _ => ?_, _, h, .mkLit ?_⟩
   ·cases mx
    ·simp [execOp, ho, resolve, invoke, builtin, Builtin.min_, Builtin.min2, ex, ey, mmV]
    ·simp [execOp, ho, resolve, invoke, builtin, Builtin.max_, Builtin.max2, ex, ey, mmV]
   ·unfold mmV
    cases mx <;> simp only <;> split <;> assumption
  ·exact h.elim
 ·exact h.elim
theorem ok_unOp (s : St c w0 S0 o0 cargs e a w S ow) (hc : constsOk c o.op = true) {op : UnOp} {ty : TypeId} {x : Operand} (ho : o.op = .unOp op ty x)
  (h : match unA op (opV e x) with
  | some v => K (.lit v) e
  | none => False) :
  POut c a w S ow o t e K := by
 have r := opV_sound s x (constsOk_mem hc (by simp [ho, Op.operands])) ⟨t, []⟩
 split at h
 ·rename_i v hv
  unfold unA at hv
  split at hv
  ·rename_i b hx
   rw [hx] at r
   obtain ⟨hr, _⟩ := r.lit
   split at hv <;> cases hv
   exact ⟨.bool !b, fun w' hw' => by simp [execOp, ho, hr, Op.unary], _, h, (.mkLit trivial)⟩
  ·rename_i k n hx
   rw [hx] at r
   obtain ⟨hr, _⟩ := r.lit
   split at hv <;> cases hv
   ·exact ⟨.int k (k.wrap (0 - n)), fun w' hw' => by simp [execOp, ho, hr, Op.unary, Op.intArith], _, h, (.mkLit (wrap_range k _))⟩
   ·exact ⟨_, fun w' hw' => by simp only [execOp, ho, hr, Op.unary, Op.intBits, Sem.run_bind, Sem.run_map, Sem.run_pure, Result.andThen_ok], _, h, (.mkLit (wrap_range k _))⟩
  ·cases hv
 ·exact h.elim
theorem ok_makeFunc (s : St c w0 S0 o0 cargs e a w S ow) (hc : constsOk c o.op = true) {fn : Fn} {first captured : Array Operand} (ho : o.op = .makeFunc fn first captured)
  (h : match (generalizing := false) fn, first.size with
  | .func f, 0 => (captured.toList.map (opV e)).all capOk = true /\ K (.fn f (captured.toList.map (opV e))) e
  | _, _ => False) :
  POut c a w S ow o t e K := by
 cases fn with
 | func f =>
  by_cases hz : first.size = 0
  ·rw [hz] at h
   obtain ⟨hcap, h⟩ := h
   have hf : first = #[] := by simpa using hz
   subst hf
   refine ⟨.func (.func f) #[] (captured.map a.eval), fun w' hw' => by simp [execOp, ho, Instr.makeFunc], _, h, (.mk rfl rfl (.fn (by simp) fun i cv x hcv hx => ?_))⟩
   rw [Array.getElem?_map] at hcv
   have hx' := hx
   rw [List.getElem?_map, Array.getElem?_toList] at hx
   obtain ⟨p, hp, rfl⟩ := Option.map_eq_some_iff.1 hcv
   rw [hp] at hx
   cases hx
   have hcp : capOk (opV e p) = true := List.all_eq_true.1 hcap _ (List.mem_of_getElem? hx')
   have r := opV_sound s p (constsOk_mem hc (by simp [ho, Op.operands]; exact Array.mem_of_getElem? hp)) ((⟨t, []⟩ : Loc).fld i)
   refine r.one ?_ ?_ ?_
   ·intro hh; rw [hh] at hcp; cases hcp
   ·cases hh : opV e p <;> rw [hh] at hcp <;> simp_all [isAggA, capOk]
   ·intro xs hh; rw [hh] at hcp; cases hcp
  ·cases hs : first.size with
   | zero => exact absurd hs hz
   | succ n => rw [hs] at h; exact h.elim
 | _ => simp at h
theorem run_nilEq (P : Program) (w : World) (ty el : TypeId) (hu : P.underlying ty = some (.slice el)) (ad : Option Addr) (n cp : Nat) :
  (binOp .eql ty (.slice ad n cp) (.slice none 0 0)).run P w = .ok (.bool ad.isNone) w := Lib.run_eql_slice_nil w ty el ad n cp 0 0 hu
theorem run_equalIn_ifc (P : Program) (w : World) (d : Nat) (ty : TypeId) (ms : Array (String × TypeId)) (hu : P.underlying ty = some (.interface ms)) (t1 : TypeId) (v1 : Value) :
  (Op.equalIn (d + 1) ty (.iface t1 v1) .nilIface).run P w = .ok false w := by simp [Op.equalIn, run_underlying hu]
theorem run_equalIn_nils (P : Program) (w : World) (d : Nat) (ty : TypeId) (ms : Array (String × TypeId)) (hu : P.underlying ty = some (.interface ms)) :
  (Op.equalIn (d + 1) ty .nilIface .nilIface).run P w = .ok true w := by simp [Op.equalIn, run_underlying hu]
theorem run_eql_any (P : Program) (w : World) (ty : TypeId) (x y : Value) {r : Bool} (h : (Op.equalIn 10000 ty x y).run P w = .ok r w) (hb : ∀ op, binOp op ty x y = match op with | .eql => (do pure (.bool (← Op.equal ty x y))) | .neq => (do pure (.bool (!(← Op.equal ty x y)))) | _ => binOp op ty x y) :
  (binOp .eql ty x y).run P w = .ok (.bool r) w /\ (binOp .neq ty x y).run P w = .ok (.bool !r) w := by
 constructor
 ·rw [hb]; simp [Op.equal, Op.maxDepth, h]
 ·rw [hb]; simp [Op.equal, Op.maxDepth, h]
def isLit : AVal -> Bool
 | .lit _ => true
 | _ => false
theorem eqAgg_lits : ∀ {ks : List Nat} {xs ys : List AVal} {r : Bool}, eqAgg ks xs ys = some r -> xs.all isLit = true /\ ys.all isLit = true
 | [], [], [], _, _ => ⟨rfl, rfl⟩
 | [], _ :: _, _, _, h => by simp [eqAgg] at h
 | [], [], _ :: _, _, h => by simp [eqAgg] at h
 | k :: ks, [], _, _, h => by simp [eqAgg] at h
 | k :: ks, x :: xs, [], _, h => by cases x <;> simp [eqAgg] at h
 | k :: ks, x :: xs, y :: ys, r, h => by
  cases x <;> try (simp [eqAgg] at h; done)
  cases y <;> try (simp [eqAgg] at h; done)
  simp only [eqAgg] at h
  split at h
  ·rename_i p q _ hq
   obtain ⟨h1, h2⟩ := eqAgg_lits hq
   exact ⟨by rw [List.all_cons, h1]; rfl, by rw [List.all_cons, h2]; rfl⟩
  ·cases h
theorem flatten_lits : ∀ {css : List (List Value)} {xs : List AVal}, css.length = xs.length -> (∀ (i : Nat) (c : List Value) (x : AVal), css[i]? = some c -> xs[i]? = some x -> ∃ v, x = .lit v /\ c = [v]) -> ∀ {i : Nat} {v : Value}, xs[i]? = some (.lit v) -> css.flatten[i]? = some v
 | [], [], _, _, i, v, h => by simp at h
 | [], _ :: _, h, _, _, _, _ => by simp at h
 | _ :: _, [], h, _, _, _, _ => by simp at h
 | c :: css, x :: xs, hl, hc, i, v, h => by
  obtain ⟨u, rfl, rfl⟩ := hc 0 c x rfl rfl
  cases i with
  | zero => simp at h; subst h; simp
  | succ i =>
   have := flatten_lits (css := css) (xs := xs) (by simpa using hl) (fun i c x h1 h2 => hc (i + 1) c x (by simpa using h1) (by simpa using h2)) (i := i) (v := v) (by simpa using h)
   simpa using this
theorem Rep.lit_cells {h : Array Obj} {l : Loc} {cs : Array Value} {xs : List AVal} (r : Rep h S ow l cs.toList (.agg xs)) (hq : xs.all isLit = true) {i : Nat} {v : Value} (hv : xs[i]? = some (.lit v)) : cs[i]? = some v := by
 obtain ⟨css, h1, h2, h3⟩ := r.agg_inv
 rw [<- Array.getElem?_toList, h2]
 refine flatten_lits h1 (fun j c x hc hx => ?_) hv
 have := List.all_eq_true.1 hq x (List.mem_of_getElem? hx)
 cases x <;> simp [isLit] at this
 exact ⟨_, rfl, (h3 j c _ hc hx).lit_inv.1⟩
theorem binK_ok (s : St c w0 S0 o0 cargs e a w S ow) (hc : constsOk c o.op = true) {op : BinOp} {ty yt : TypeId} {x y : Operand} (ho : o.op = .binOp op ty x y yt) (h : binK c.g.P op ty x y (opV e x) (opV e y) fun v => K v e) :
  POut c a w S ow o t e K := by
 have rx := opV_sound s x (constsOk_mem hc (by simp [ho, Op.operands])) ⟨t, []⟩
 have ry := opV_sound s y (constsOk_mem hc (by simp [ho, Op.operands])) ⟨t, []⟩
 unfold binK at h
 split at h
 ·rename_i k n k' m hx hy
  rw [hx] at rx; rw [hy] at ry
  obtain ⟨ex, okx⟩ := rx.lit
  obtain ⟨ey, _⟩ := ry.lit
  split at h
  ·rename_i v hv
   have h2 := (binInt_ok hv okx c.g.P ty w).2
   refine ⟨v, fun w' hw' => ?_, _, h, (.mkLit h2)⟩
   have h1 := (binInt_ok hv okx c.g.P ty w').1
   have hg : ∀ w', (eqGuard op ty x y (.int k n) (.int k' m)).run c.g.P w' = .ok () w' := by intro w'; unfold eqGuard; cases op <;> simp
   simp [execOp, ho, ex, ey, hg, h1]
  ·exact h.elim
 ·rename_i str1 str2 hx hy
  rw [hx] at rx; rw [hy] at ry
  obtain ⟨ex, okx⟩ := rx.lit
  obtain ⟨ey, _⟩ := ry.lit
  split at h
  ·rename_i v hv
   have h2 := (binStr_ok hv c.g.P ty w).2
   refine ⟨v, fun w' hw' => ?_, _, h, (.mkLit h2)⟩
   have h1 := (binStr_ok hv c.g.P ty w').1
   have hg : ∀ w', (eqGuard op ty x y (.string str1) (.string str2)).run c.g.P w' = .ok () w' := by intro w'; unfold eqGuard; cases op <;> simp
   simp [execOp, ho, ex, ey, hg, h1]
  ·exact h.elim
 ·rename_i p q hx hy
  rw [hx] at rx; rw [hy] at ry
  obtain ⟨ex, okx⟩ := rx.lit
  obtain ⟨ey, _⟩ := ry.lit
  have hg : ∀ w', (eqGuard op ty x y (.bool p) (.bool q)).run c.g.P w' = .ok () w' := by intro w'; unfold eqGuard; cases op <;> simp
  split at h
  ·rename_i hu
   exact ⟨.bool (p == q), fun w' hw' => by simp [execOp, ho, ex, ey, hg, (run_eql_any c.g.P w' ty (.bool p) (.bool q) (run_equalIn_bool' w' 9999 ty p q hu) (fun op => by cases op <;> rfl)).1], _, h, (.mkLit trivial)⟩
  ·rename_i hu
   exact ⟨.bool (p != q), fun w' hw' => by simp [execOp, ho, ex, ey, hg, (run_eql_any c.g.P w' ty (.bool p) (.bool q) (run_equalIn_bool' w' 9999 ty p q hu) (fun op => by cases op <;> rfl)).2, bne], _, h, (.mkLit trivial)⟩
  ·exact h.elim
 ·rename_i xs ys hx hy
  rw [hx] at rx; rw [hy] at ry
  obtain ⟨cx, ex, rx⟩ := rx.agg
  obtain ⟨cy, ey, ry⟩ := ry.agg
  split at h
  ·rename_i ks hks
   unfold plainStruct at hks
   split at hks
   ·rename_i fs hu
    split at hks
    ·rename_i hh
     obtain ⟨hst, hgt⟩ := hh
     have hfo : c.g.P.underlying ty = some (.struct (c.g.P.fieldsOf ty)) := by
      unfold Program.fieldsOf; rw [hu]
     have cells : ∀ {xs : List AVal} {cs : Array Value}, xs.all isLit = true -> Rep w.heap S ow ⟨t, []⟩ cs.toList (.agg xs) -> ∀ (i : Nat) (v : Value), xs[i]? = some (.lit v) -> cs[0 + i]? = some v :=
      fun hq r i v hv => by rw [Nat.zero_add]; exact r.lit_cells hq hv
     have key : ∀ w' r, eqAgg ks xs ys = some r -> (Op.equalIn 10000 ty (.agg cx) (.agg cy)).run c.g.P w' = .ok r w' := fun w' r hr => by
      rw [run_equalIn_agg w' 9999 ty cx cy hfo hst]
      exact run_eqFields c.g.P w' 9998 _ 0 ks xs ys cx cy hks (cells (eqAgg_lits hr).1 rx) (cells (eqAgg_lits hr).2 ry) hr
     have hg := fun w' => run_eqGuard_agg (P := c.g.P) w' op ty x y cx cy hgt
     split at h
     ·rename_i r hr
      exact ⟨.bool r, fun w' hw' => by simp [execOp, ho, ex, ey, hg, run_eql_struct, key w' r hr], _, h, (.mkLit trivial)⟩
     ·rename_i r hr
      exact ⟨.bool !r, fun w' hw' => by simp [execOp, ho, ex, ey, hg, run_neq_struct, key w' r hr], _, h, (.mkLit trivial)⟩
     ·exact h.elim
    ·cases hks
   ·cases hks
  ·exact h.elim
 ·rename_i hx hy
  rw [hx] at rx; rw [hy] at ry
  obtain ⟨t1, v1, ex⟩ := (rx.one (by simp) rfl (by simp)).ifc_inv
  simp only [List.cons.injEq, and_true] at ex
  obtain ⟨ey, _⟩ := ry.lit
  have hg : ∀ w', (eqGuard op ty x y (.iface t1 v1) .nilIface).run c.g.P w' = .ok () w' := by intro w'; unfold eqGuard; cases op <;> simp
  split at h
  ·rename_i ms hu
   exact ⟨.bool false, fun w' hw' => by simp [execOp, ho, ex, ey, hg, (run_eql_any c.g.P w' ty _ _ (run_equalIn_ifc c.g.P w' 9999 ty ms hu t1 v1) (fun op => by cases op <;> rfl)).1], _, h, (.mkLit trivial)⟩
  ·rename_i ms hu
   exact ⟨.bool true, fun w' hw' => by simp [execOp, ho, ex, ey, hg, (run_eql_any c.g.P w' ty _ _ (run_equalIn_ifc c.g.P w' 9999 ty ms hu t1 v1) (fun op => by cases op <;> rfl)).2], _, h, (.mkLit trivial)⟩
  ·exact h.elim
 ·rename_i hx hy
  rw [hx] at rx; rw [hy] at ry
  obtain ⟨ex, _⟩ := rx.lit
  obtain ⟨ey, _⟩ := ry.lit
  split at h
  ·rename_i ms v hu
   have hg : ∀ w', (eqGuard .eql ty x (.const v) .nilIface .nilIface).run c.g.P w' = .ok () w' := by unfold eqGuard; simp
   exact ⟨.bool true, fun w' hw' => by simp [execOp, ho, ex, ey, hg, (run_eql_any c.g.P w' ty _ _ (run_equalIn_nils c.g.P w' 9999 ty ms hu) (fun op => by cases op <;> rfl)).1], _, h, (.mkLit trivial)⟩
  ·rename_i ms v hu
   have hg : ∀ w', (eqGuard .neq ty x (.const v) .nilIface .nilIface).run c.g.P w' = .ok () w' := by unfold eqGuard; simp
   exact ⟨.bool false, fun w' hw' => by simp [execOp, ho, ex, ey, hg, (run_eql_any c.g.P w' ty _ _ (run_equalIn_nils c.g.P w' 9999 ty ms hu) (fun op => by cases op <;> rfl)).2], _, h, (.mkLit trivial)⟩
  ·exact h.elim
 ·have hy : opV e y = .lit (.slice none 0 0) := by assumption
  rw [hy] at ry
  obtain ⟨ey, _⟩ := ry.lit
  split at h
  ·rename_i b sz xs el hx hu
   rw [hx] at rx
   have : ∃ ad cp, a.eval x = .slice ad xs.length cp /\ (0 < xs.length -> ad.isNone = false) := by
    have r1 := rx.one (by simp) rfl (by simp)
    cases b with
    | false =>
     rcases r1.shd_lst_inv.lst_inv with ⟨_, ⟨ad, cap, hc1, rfl, _⟩ | ⟨b, off, cap, cur, t1, fr, hc1, _⟩⟩
     ·simp only [List.cons.injEq, and_true] at hc1; exact ⟨_, _, hc1, by simp⟩
     ·simp only [List.cons.injEq, and_true] at hc1; exact ⟨_, _, hc1, by simp⟩
    | true =>
     rcases r1.lst_inv with ⟨hc1, rfl⟩ | ⟨b, cap, cur, t1, fr, hc1, _⟩
     ·simp only [List.cons.injEq, and_true] at hc1; exact ⟨_, _, hc1, by simp⟩
     ·simp only [List.cons.injEq, and_true] at hc1; exact ⟨_, _, hc1, by simp⟩
   obtain ⟨ad, cp, ex, hn⟩ := this
   have hg : ∀ w', (eqGuard .eql ty x y (.slice ad xs.length cp) (.slice none 0 0)).run c.g.P w' = .ok () w' := by unfold eqGuard; simp
   exact ⟨.bool ad.isNone, fun w' hw' => by simp [execOp, ho, ex, ey, hg, run_nilEq c.g.P w' ty el hu], _, (h _ hn), (.mkLit trivial)⟩
  ·rename_i l sz lo n el hx hu
   rw [hx] at rx
   have : ∃ ad cp, a.eval x = .slice ad n cp /\ (0 < n -> ad.isNone = false) := by
    rcases (rx.one (by simp) rfl (by simp)).href_inv with ⟨hc1, rfl, rfl⟩ | ⟨b, cap, cur, t1, fr, hc1, _⟩
    ·simp only [List.cons.injEq, and_true] at hc1; exact ⟨_, _, hc1, by simp⟩
    ·simp only [List.cons.injEq, and_true] at hc1; exact ⟨_, _, hc1, by simp⟩
   obtain ⟨ad, cp, ex, hn⟩ := this
   have hg : ∀ w', (eqGuard .eql ty x y (.slice ad n cp) (.slice none 0 0)).run c.g.P w' = .ok () w' := by unfold eqGuard; simp
   exact ⟨.bool ad.isNone, fun w' hw' => by simp [execOp, ho, ex, ey, hg, run_nilEq c.g.P w' ty el hu], _, (h _ hn), (.mkLit trivial)⟩
  ·exact h.elim
 ·exact h.elim
end
end Go.VS
/- VS, fourteenth part: the operations are sound (5). -/
set_option linter.unusedVariables false
set_option linter.unusedSimpArgs false
namespace Go.VS
variable {c : Ctx} {w0 : World} {S0 : Nat -> Prop} {o0 : Own} {cargs : Array Value} {e : Env} {a : Act} {w : World} {S : Nat -> Prop} {ow : Own}
section
variable {rid t : Nat} {o : Oper} {K : AVal -> Env -> Prop}
theorem St.elems (s : St c w0 S0 o0 cargs e a w S ow) {x : AVal} {sz : Nat} {zs : List AVal} (hx : elems e x = some (sz, zs)) {l : Loc} {v : Value} (r : Rep w.heap S ow l [v] x) :
  ∃ ad cap, v = .slice ad zs.length cap /\ zs.length <= maxLen /\ (0 < zs.length -> ∃ b off cur t1 fr, ad = some ⟨b, off, none⟩ /\ w.heap[b]? = some (.cells cur t1 fr) /\ (S b \/ ∃ m, ow b = some m) /\ off + zs.length * sz <= cur.size ∧
   ∀ (i : Nat) (z : AVal), zs[i]? = some z -> ∃ l', Rep w.heap S ow l' ((cur.toList.drop (off + i * sz)).take sz) z) := by
 cases x <;> simp only [VS.elems] at hx <;> try (cases hx; done)
 case lst own sz' xs =>
  cases hx
  cases own with
  | false =>
   rcases r.shd_lst_inv.lst_inv with ⟨_, ⟨ad, cap, hc1, rfl, _⟩ | ⟨b, off, cap, cur, t1, fr, hc1, hb, hS, hfit, hcap, hmx, hm⟩⟩
   ·simp only [List.cons.injEq, and_true] at hc1
    exact ⟨ad, cap, hc1, by simp, by simp⟩
   ·simp only [List.cons.injEq, and_true] at hc1
    exact ⟨_, cap, hc1, by omega, fun _ => ⟨b, off, cur, t1, fr, rfl, hb, .inl hS, hfit, fun i z hz => ⟨l, .shd (hm i z hz)⟩⟩⟩
  | true =>
   rcases r.lst_inv with ⟨hc1, rfl⟩ | ⟨b, cap, cur, t1, fr, hc1, hb, hob, hfr, hsz, hlen, hcap, hnr, hm⟩
   ·simp only [List.cons.injEq, and_true] at hc1
    exact ⟨_, _, hc1, by simp, by simp⟩
   ·simp only [List.cons.injEq, and_true] at hc1
    refine ⟨_, cap, hc1, by omega, fun _ => ⟨b, 0, cur, t1, fr, rfl, hb, .inr ⟨_, hob⟩, ?_, fun i z hz => ⟨_, by rw [Nat.zero_add]; exact hm i z hz⟩⟩⟩
    rw [hsz, Nat.zero_add]
    exact Nat.mul_le_mul_right _ hlen
 case href l1 sz' lo n =>
  split at hx
  ·rename_i sz2 xs hg
   split at hx
   ·rename_i hh
    obtain ⟨h2, hle⟩ := hh
    subst h2
    cases hx
    have hl : ((xs.drop lo).take n).length = n := by simp; omega
    rw [hl]
    rcases r.href_inv with ⟨hc1, rfl, rfl⟩ | ⟨b, cap, cur, t1, fr, hc1, hb, hob, hfr, hsz, hlen, hcap⟩
    ·simp only [List.cons.injEq, and_true] at hc1
     exact ⟨_, _, hc1, by simp, by simp⟩
    ·simp only [List.cons.injEq, and_true] at hc1
     refine ⟨_, cap, hc1, by omega, fun hpos => ⟨b, lo * _, cur, t1, fr, rfl, hb, .inr ⟨_, hob⟩, ?_, fun i z hz => ?_⟩⟩
     ·rw [hsz, <- Nat.add_mul]
      exact Nat.mul_le_mul_right _ (by omega)
     ·obtain ⟨cn, rn⟩ := (s.env l1.r).node (p := l1.p) hg rfl
      have el : (⟨l1.r, []⟩ : Loc).ext l1.p = l1 := by simp [Loc.ext]
      rw [el] at rn
      rcases rn.lst_inv with ⟨_, rfl⟩ | ⟨b', cap', cur', t', fr', _, hb', ho', _, _, _, _, _, hm⟩
      ·simp at hz
      ·obtain rfl := s.wo.inj _ _ _ hob ho'
       rw [hb] at hb'
       cases hb'
       rw [List.getElem?_take] at hz
       split at hz
       ·rw [List.getElem?_drop] at hz
        have := hm _ z hz
        rw [<- Nat.add_mul]
        exact ⟨_, this⟩
       ·cases hz
   ·cases hx
  ·cases hx
theorem strOfA_len : ∀ {xs : List AVal} {bs : List UInt8}, strOfA xs = some bs -> ∃ ns : List Int, xs = ns.map (fun n => AVal.lit (.int .u8 n)) /\ bs = ns.map fun n => UInt8.ofNat n.toNat
 | [], bs, h => by simp [strOfA] at h; subst h; exact ⟨[], rfl, rfl⟩
 | x :: xs, bs, h => by
  simp only [strOfA] at h
  split at h
  ·rename_i b bs' h1 h2
   cases h
   obtain ⟨ns, h3, h4⟩ := strOfA_len h2
   unfold byteOfA at h1
   split at h1
   ·rename_i n
    cases h1
    exact ⟨n :: ns, by simp [h3], by simp [h4]⟩
   ·cases h1
  ·cases h
theorem run_bytesStr (P : Program) (w : World) (ad : Option Addr) (cap : Nat) (ns : List Int) (h : 0 < ns.length -> ∃ b off cur t1 fr, ad = some ⟨b, off, none⟩ /\ w.heap[b]? = some (.cells cur t1 fr) /\ ∀ (i : Nat) (n : Int), ns[i]? = some n -> cur[off + i]? = some (.int .u8 n)) :
  (Conv.bytesToString (.slice ad ns.length cap)).run P w = .ok (.string ⟨(ns.map fun n => UInt8.ofNat n.toNat).toArray⟩) w := by
 have hf := foldl_push_bytes ns ByteArray.empty
 have he : ByteArray.empty.data = #[] := rfl
 rw [he] at hf
 simp only [Array.empty_append] at hf
 cases ad with
 | none =>
  cases ns with
  | nil => simp [Conv.bytesToString]; rfl
  | cons n ns => obtain ⟨_, _, _, _, _, h, _⟩ := h (by simp); cases h
 | some ad =>
  rw [run_bytesToString w ad ns.length cap ns, hf]
  cases ns with
  | nil => simp [loadCells, loadCellsFrom]
  | cons n ns =>
   obtain ⟨b, off, cur, t1, fr, hh, hb, hc⟩ := h (by simp)
   cases hh
   have hl := run_loadCells_list (P := P) w ⟨b, off, none⟩ ((n :: ns).map (Value.int .u8)) (fun j v hj => by
    rw [List.getElem?_map] at hj
    obtain ⟨m, hm, rfl⟩ := Option.map_eq_some_iff.1 hj
    have : (⟨b, off, none⟩ : Addr).add j = ⟨b, off + j, none⟩ := by unfold Addr.add; split <;> simp_all
    rw [this, cell_of_row w b (off + j) cur t1 fr hb]
    exact hc j m hm)
   rwa [List.length_map] at hl
theorem ok_convert (s : St c w0 S0 o0 cargs e a w S ow) (ht : free ow t) (htn : t <= c.nt) (hc : constsOk c o.op = true) {src dst : TypeId} {x : Operand} (ho : o.op = .convert src dst x)
  (h : match opV e x with
  | .lit (.int _ n) => match c.g.P.underlying src, c.g.P.underlying dst with
   | some _, some (.int k) => K (.lit (.int k (k.wrap n))) e
   | _, _ => False
  | .lit (.string s) => match c.g.P.underlying src, c.g.P.underlying dst with
   | some .string, some .string => K (.lit (.string s)) e
   | some .string, some (.slice el) => match c.g.P.underlying el with
    | some (.int .u8) => c.g.P.cellsOf el = 1 /\ K (.lst true 1 (bytesA s)) e
    | _ => False
   | _, _ => False
  | x => match elems e x, c.g.P.underlying src, c.g.P.underlying dst with
   | some (1, xs), some (.slice el), some .string => match c.g.P.underlying el, strOfA xs with
    | some (.int .u8), some bs => K (.lit (.string ⟨bs.toArray⟩)) e
    | _, _ => False
   | _, _, _ => False) :
  ∃ v w1, (execOp a.eval o).run c.g.P w = .ok (.value v) w1 /\ Out c w0 S0 o0 cargs a w t ow K v w1 := by
 have r := opV_sound s x (constsOk_mem hc (by simp [ho, Op.operands])) ⟨t, []⟩
 split at h
 ·rename_i k0 n hx
  rw [hx] at r
  obtain ⟨hv, _⟩ := r.lit
  split at h
  ·rename_i d k hs hd
   refine ⟨.int k (k.wrap n), w, ?_, .same s h (.mkLit (wrap_range k n))⟩
   simp [execOp, ho, hv, convert, run_underlying hs, run_underlying hd, Conv.intToInt]
  ·exact h.elim
 ·rename_i str hx
  rw [hx] at r
  obtain ⟨hv, hl⟩ := r.lit
  split at h
  ·rename_i hs hd
   refine ⟨.string str, w, ?_, .same s h (.mkLit hl)⟩
   simp [execOp, ho, hv, convert, run_underlying hs, run_underlying hd]
  ·rename_i el hs hd
   split at h
   ·rename_i he
    obtain ⟨h1, h⟩ := h
    have hr := Lib.run_convert_string_bytes (P := c.g.P) w src dst el str hs hd he
    have hm : OneMore w (Lib.bytesWorld w el str) := ⟨rfl, rfl, rfl, Lib.bytesWorld_size w el str, fun b hb => Lib.bytesWorld_at_old w el str b hb⟩
    obtain ⟨s1, hold⟩ := s.newBlock hm (tl := ⟨t, []⟩) (fun b hb => ht b _ hb rfl) htn
    have hsz : (Lib.bytesCells w el str).size = grownCap w str.size 0 el := by
     have := grownCap_ge w str.size 0 el
     simp [Lib.bytesCells]
     have e1 : str.data.size = str.size := rfl
     omega
    have hlen : (bytesA str).length = str.size := by simp [bytesA]
    refine ⟨.slice (some ⟨w.heap.size, 0, none⟩) str.size (grownCap w str.size 0 el), _, by simp [execOp, ho, hv, hr], .lst true 1 (bytesA str), e, S, _, h, s1, .mk rfl rfl ?_, newO_newAt ⟨[], by simp [Loc.ext]⟩, hm.old⟩
    rw [<- hlen]
    refine .lst (Lib.bytesWorld_at_new w el str) (newO_at _ _ _) (fun j hj hh => ?_) (by rw [hsz, hlen]; omega) ?_ ?_ ?_ fun i z hz => ?_
    ·simp only at hh; omega
    ·rw [hlen]; exact grownCap_ge w str.size 0 el
    ·rw [hlen]; exact grownCap_le_maxLen w _ 0 el hl
    ·rw [noRefs_all, List.all_eq_true]
     intro z hz
     simp only [bytesA, List.mem_map] at hz
     obtain ⟨b, _, rfl⟩ := hz
     rfl
    ·simp only [bytesA, List.getElem?_map] at hz
     obtain ⟨b, hb, rfl⟩ := Option.map_eq_some_iff.1 hz
     have hi : i < str.data.size := by
      have := (List.getElem?_eq_some_iff.1 hb).1
      simpa using this
     have e1 : ((Lib.bytesCells w el str).toList.drop (i * 1)).take 1 = [.int .u8 b.toNat] := by
      rw [Nat.mul_one]
      apply List.ext_getElem?
      intro j
      rw [List.getElem?_take]
      cases j with
      | zero =>
       rw [if_pos (by decide), List.getElem?_drop, Nat.add_zero, Array.getElem?_toList]
       unfold Lib.bytesCells
       rw [Array.getElem?_append_left (by simpa using hi), Array.getElem?_map]
       rw [Array.getElem?_toList] at hb
       rw [hb]
       rfl
      | succ j => rw [if_neg (by omega)]; simp
     rw [e1]
     refine .shd (.lit ?_)
     have := b.toNat_lt
     simp only [litOk, IntKind.min, IntKind.max, IntKind.bits, IntKind.signed]
     simp
     omega
   ·exact h.elim
  ·exact h.elim
 ·split at h
  ·rename_i xs el hx hs hd
   split at h
   ·rename_i bs he hb
    obtain ⟨ns, rfl, rfl⟩ := strOfA_len hb
    have hne : ∀ u, opV e x ≠ .lit u := fun u hu => by rw [hu] at hx; simp [VS.elems] at hx
    have hag : isAggA (opV e x) = false := by cases hq : opV e x <;> rw [hq] at hx <;> simp_all [VS.elems, isAggA]
    have hr := r.one (by intro hq; rw [hq] at hx; simp [VS.elems] at hx) hag (by intro q hq; rw [hq] at hx; simp [VS.elems] at hx)
    obtain ⟨ad, cap, hv, hmx, hbk⟩ := s.elems hx hr
    rw [List.length_map] at hv hbk hmx
    have hrun := run_bytesStr c.g.P w ad cap ns (fun hp => by
     obtain ⟨b, off, cur, t1, fr, h1, h2, _, h3, h4⟩ := hbk hp
     refine ⟨b, off, cur, t1, fr, h1, h2, fun i n hn => ?_⟩
     obtain ⟨l', h5⟩ := h4 i (.lit (.int .u8 n)) (by rw [List.getElem?_map, hn]; rfl)
     have h6 := h5.lit_inv.1
     rw [Nat.mul_one] at h6
     have : ((cur.toList.drop (off + i)).take 1)[0]? = some (Value.int .u8 n) := by rw [h6]; rfl
     rw [List.getElem?_take, if_pos (by decide), List.getElem?_drop, Nat.add_zero, Array.getElem?_toList] at this
     exact this)
    refine ⟨_, w, ?_, .same s h (.mkLit ?_)⟩
    ·simp only [execOp, ho, hv, Sem.run_bind, Result.andThen_ok, run_convert_bytes_string w src dst el ad ns.length cap hs he hd, hrun, Sem.run_pure]
    ·simp only [litOk, ByteArray.size, List.size_toArray, List.length_map]
     exact hmx
   ·exact h.elim
  ·exact h.elim
end
end Go.VS
/- VS, fifteenth part: the operations are sound (6). -/
set_option linter.unusedVariables false
set_option linter.unusedSimpArgs false
namespace Go.VS
variable {c : Ctx} {w0 : World} {S0 : Nat -> Prop} {o0 : Own} {cargs : Array Value} {e : Env} {a : Act} {w : World} {S : Nat -> Prop} {ow : Own}
section
variable {rid t : Nat} {o : Oper} {K : AVal -> Env -> Prop}
theorem bound_of (s : St c w0 S0 o0 cargs e a w S ow) (hc : constsOk c o.op = true) {lo : Option Operand} (hm : ∀ x, lo = some x -> x ∈ o.op.operands) :
  (∀ l, opK.loOf e lo = some l -> (lo = none /\ l = 0) \/ ∃ x k, lo = some x /\ a.eval x = .int k l) /\ (∀ n h, opK.hiOf e lo n = some h -> (lo = none /\ h = n) \/ ∃ x k, lo = some x /\ a.eval x = .int k h) := by
 constructor
 ·intro l hl
  cases lo with
  | none => simp [opK.loOf] at hl; exact .inl ⟨rfl, hl.symm⟩
  | some x =>
   simp only [opK.loOf] at hl
   split at hl
   ·rename_i k n hx
    cases hl
    have r := opV_sound s x (constsOk_mem hc (hm x rfl)) ⟨0, []⟩
    rw [hx] at r
    exact .inr ⟨x, k, rfl, r.lit.1⟩
   ·cases hl
 ·intro n h hl
  cases lo with
  | none => simp [opK.hiOf] at hl; exact .inl ⟨rfl, hl.symm⟩
  | some x =>
   simp only [opK.hiOf] at hl
   split at hl
   ·rename_i k n' hx
    cases hl
    have r := opV_sound s x (constsOk_mem hc (hm x rfl)) ⟨0, []⟩
    rw [hx] at r
    exact .inr ⟨x, k, rfl, r.lit.1⟩
   ·cases hl
theorem run_bounds (P : Program) (w : World) (isSlice : Bool) (len cap : Nat) (lo hi : Option Value) (l h : Int) (hl : (lo = none /\ l = 0) \/ ∃ k, lo = some (.int k l)) (hh : (hi = none /\ h = len) \/ ∃ k, hi = some (.int k h))
  (h0 : 0 <= l) (h1 : l <= h) (h2 : h <= len) (hlc : len <= cap) : (Instr.sliceBounds isSlice len cap lo hi none).run P w = .ok (l.toNat, h.toNat, cap) w := by
 have e1 : 0 <= h /\ h <= (cap : Int) := by omega
 have e2 : 0 <= l /\ l <= ((h.toNat : Nat) : Int) := by omega
 have e3 : max h 0 = h := by omega
 rcases hl with ⟨rfl, rfl⟩ | ⟨k, rfl⟩ <;> rcases hh with ⟨rfl, rfl⟩ | ⟨k', rfl⟩ <;> simp [Instr.sliceBounds, Instr.sliceBound, asIntOf, e1, e2, e3, h1, h0]
 all_goals (have : (l <= (len : Int)) := by omega) <;> simp [this]
theorem ok_slice (s : St c w0 S0 o0 cargs e a w S ow) (hc : constsOk c o.op = true) {ty : TypeId} {x : Operand} {lo hi mx : Option Operand} (ho : o.op = .slice ty x lo hi mx)
  (h : match (generalizing := false) mx with
  | some _ => False
  | none => match opV e x with
   | .lit (.string s) => match c.g.P.underlying ty with
    | some .string => match opK.loOf e lo, opK.hiOf e hi s.size with
     | some l, some h => 0 <= l /\ l <= h /\ h <= s.size /\ K (.lit (.string (s.extract l.toNat h.toNat))) e
     | _, _ => False
    | _ => False
   | .lst false sz xs => match elemT c.g.P ty, opK.loOf e lo, opK.hiOf e hi xs.length with
    | some el, some l, some h => c.g.P.cellsOf el = sz /\ 0 < sz /\ 0 <= l /\ l <= h /\ h <= xs.length /\ K (.lst false sz ((xs.drop l.toNat).take (h.toNat - l.toNat))) e
    | _, _, _ => False
   | .href loc sz lo0 n => match elemT c.g.P ty, opK.loOf e lo, opK.hiOf e hi n with
    | some el, some l, some h => c.g.P.cellsOf el = sz /\ 0 < sz /\ 0 <= l /\ l <= h /\ h <= n /\ (l < h -> K (.href loc sz (lo0 + l.toNat) (h.toNat - l.toNat)) e) /\ (l = h -> K (.lst false sz []) e)
    | _, _, _ => False
   | _ => False) :
  ∃ v w1, (execOp a.eval o).run c.g.P w = .ok (.value v) w1 /\ Out c w0 S0 o0 cargs a w t ow K v w1 := by
 cases mx with
 | some m => exact h.elim
 | none =>
 have r := opV_sound s x (constsOk_mem hc (by simp [ho, Op.operands])) ⟨t, []⟩
 have bl := (bound_of s hc (lo := lo) (fun y hy => by simp [ho, Op.operands, hy])).1
 have bh := (bound_of s hc (lo := hi) (fun y hy => by simp [ho, Op.operands, hy])).2
 have mapLo : ∀ l, opK.loOf e lo = some l -> (lo.map a.eval = none /\ l = 0) \/ ∃ k, lo.map a.eval = some (.int k l) := fun l hl => by
  rcases bl l hl with ⟨q1, q2⟩ | ⟨y, k, q1, q2⟩
  ·exact .inl ⟨by rw [q1]; rfl, q2⟩
  ·exact .inr ⟨k, by rw [q1, Option.map_some, q2]⟩
 have mapHi : ∀ n h, opK.hiOf e hi n = some h -> (hi.map a.eval = none /\ h = n) \/ ∃ k, hi.map a.eval = some (.int k h) := fun n h hl => by
  rcases bh n h hl with ⟨q1, q2⟩ | ⟨y, k, q1, q2⟩
  ·exact .inl ⟨by rw [q1]; rfl, q2⟩
  ·exact .inr ⟨k, by rw [q1, Option.map_some, q2]⟩
 simp only at h
 split at h
 ·rename_i str hx
  rw [hx] at r
  obtain ⟨hv, hl⟩ := r.lit
  split at h
  ·rename_i hu
   split at h
   ·rename_i l hh hlo hhi
    obtain ⟨h1, h2, h3, hK⟩ := h
    have hr := run_bounds c.g.P w false str.size str.size _ _ l hh (mapLo l hlo) (mapHi _ hh hhi) h1 h2 h3 (Nat.le_refl _)
    refine ⟨.string (str.extract l.toNat hh.toNat), w, ?_, .same s hK (.mkLit ?_)⟩
    ·simp [execOp, ho, hv, Instr.sliceAt, Instr.slice, run_underlying hu, hr]
    ·simp only [litOk, ByteArray.size_extract]
     simp only [litOk] at hl
     omega
   ·exact h.elim
  ·exact h.elim
 ·rename_i sz xs hx
  rw [hx] at r
  split at h
  ·rename_i el l hh hel hlo hhi
   obtain ⟨h1, h2, h3, h4, h5, hK⟩ := h
   obtain ⟨i, hi1, his⟩ := cellsOf_pos (h1 ▸ h2)
   have hu := elemT_ok hel
   have hlen : ((xs.drop l.toNat).take (hh.toNat - l.toNat)).length = hh.toNat - l.toNat := by simp; omega
   rcases (r.one (by simp) rfl (by simp)).shd_lst_inv.lst_inv with ⟨_, ⟨ad, cap, hc1, rfl, hmx⟩ | ⟨b, off, cap, cur, t1, fr, hc1, hb, hS, hfit, hcap, hmx, hm⟩⟩
   ·simp only [List.cons.injEq, and_true] at hc1
    have hr := run_bounds c.g.P w true 0 cap _ _ l hh (mapLo l hlo) (mapHi _ hh hhi) h3 h4 h5 (Nat.zero_le _)
    have e1 : l.toNat = 0 := by simp at h5; omega
    have e2 : hh.toNat = 0 := by simp at h5; omega
    refine ⟨_, w, by simp [execOp, ho, hc1, Instr.sliceAt, Instr.slice, run_underlying hu, hr, sizeOf, typeInfo, hi1]; rfl, .same s hK ?_⟩
    simp only [e1, e2, List.drop_nil, List.take_nil, Nat.sub_self]
    exact .mk rfl rfl (.shd (.emp (by omega)))
   ·simp only [List.cons.injEq, and_true] at hc1
    have hr := run_bounds c.g.P w true xs.length cap _ _ l hh (mapLo l hlo) (mapHi _ hh hhi) h3 h4 h5 hcap
    have hadd : ∀ m, (⟨b, off, none⟩ : Addr).add m = ⟨b, off + m, none⟩ := fun m => by unfold Addr.add; split <;> simp_all
    refine ⟨_, w, by simp [execOp, ho, hc1, Instr.sliceAt, Instr.slice, run_underlying hu, hr, sizeOf, typeInfo, hi1]; rfl, .same s hK ?_⟩
    by_cases hz : cap = l.toNat
    ·have e1 : hh.toNat - l.toNat = 0 := by omega
     rw [e1, List.take_zero]
     exact .mk rfl rfl (.shd (.emp (by omega)))
    ·rw [if_neg hz, his, h1, hadd]
     have := RepS.lst (h := w.heap) (S := S) (sz := sz) (xs := (xs.drop l.toNat).take (hh.toNat - l.toNat)) (off := off + l.toNat * sz) (cap := cap - l.toNat) hb hS (by
      rw [hlen]
      have : (l.toNat + (hh.toNat - l.toNat)) * sz <= xs.length * sz := Nat.mul_le_mul_right _ (by omega)
      rw [Nat.add_mul] at this
      omega) (by rw [hlen]; omega) (by omega) (fun i z hz => by
      rw [List.getElem?_take] at hz
      split at hz
      ·rw [List.getElem?_drop] at hz
       have := hm _ z hz
       rwa [Nat.add_mul, <- Nat.add_assoc] at this
      ·cases hz)
     rw [hlen] at this
     exact .mk rfl rfl (.shd this)
  ·exact h.elim
 ·rename_i loc sz lo0 n hx
  rw [hx] at r
  split at h
  ·rename_i el l hh hel hlo hhi
   obtain ⟨h1, h2, h3, h4, h5, hK1, hK2⟩ := h
   obtain ⟨i, hi1, his⟩ := cellsOf_pos (h1 ▸ h2)
   have hu := elemT_ok hel
   rcases (r.one (by simp) rfl (by simp)).href_inv with ⟨hc1, rfl, rfl⟩ | ⟨b, cap, cur, t1, fr, hc1, hb, hob, hfr, hsz, hlen, hcap⟩
   ·simp only [List.cons.injEq, and_true] at hc1
    have hr := run_bounds c.g.P w true 0 0 _ _ l hh (mapLo l hlo) (mapHi _ hh hhi) h3 h4 h5 (Nat.zero_le _)
    have e1 : l.toNat = 0 := by simp at h5; omega
    have e2 : hh.toNat = 0 := by simp at h5; omega
    refine ⟨_, w, by simp [execOp, ho, hc1, Instr.sliceAt, Instr.slice, run_underlying hu, hr, sizeOf, typeInfo, hi1]; rfl, .same s (hK2 (by simp at h5; omega)) ?_⟩
    simp only [e1, e2, Nat.sub_self]
    exact .mk rfl rfl (.shd (.emp (by omega)))
   ·simp only [List.cons.injEq, and_true] at hc1
    have hr := run_bounds c.g.P w true n cap _ _ l hh (mapLo l hlo) (mapHi _ hh hhi) h3 h4 h5 hlen
    have hadd : ∀ m, (⟨b, lo0 * sz, none⟩ : Addr).add m = ⟨b, lo0 * sz + m, none⟩ := fun m => by unfold Addr.add; split <;> simp_all
    by_cases hlt : l < hh
    ·refine ⟨_, w, by simp [execOp, ho, hc1, Instr.sliceAt, Instr.slice, run_underlying hu, hr, sizeOf, typeInfo, hi1]; rfl, .same s (hK1 hlt) ?_⟩
     rw [if_neg (by omega), his, h1, hadd, <- Nat.add_mul]
     exact .mk rfl rfl (.href hb hob hfr (by rw [hsz]; congr 1; omega) (by omega) (by omega))
    ·have e1 : hh.toNat - l.toNat = 0 := by omega
     refine ⟨_, w, by simp [execOp, ho, hc1, Instr.sliceAt, Instr.slice, run_underlying hu, hr, sizeOf, typeInfo, hi1]; rfl, .same s (hK2 (by omega)) ?_⟩
     rw [e1]
     exact .mk rfl rfl (.shd (.emp (by omega)))
  ·exact h.elim
 ·exact h.elim
theorem ok_field (s : St c w0 S0 o0 cargs e a w S ow) (hc : constsOk c o.op = true) {ty : TypeId} {x : Operand} {k : Nat} (ho : o.op = .field ty x k)
  (h : match fieldT c.g.P ty k with
  | some (fo, ft) => match getF [k] (opV e x) with
   | some (fo', z) => fo' = fo /\ 0 < z.w /\ z.w = c.g.P.cellsOf ft /\ aggT c.g.P ft = some (isAggA z) /\ K z e
   | none => False
  | none => False) :
  ∃ v w1, (execOp a.eval o).run c.g.P w = .ok (.value v) w1 /\ Out c w0 S0 o0 cargs a w t ow K v w1 := by
 have r := opV_sound s x (constsOk_mem hc (by simp [ho, Op.operands])) ⟨c.nt + 1, []⟩
 split at h
 ·rename_i fo ft hf
  split at h
  ·rename_i fo' z hz
   obtain ⟨rfl, h1, h2, h3, hK⟩ := h
   obtain ⟨fs, f, i, hu, hff, rfl, rfl, hi, hne, his⟩ := fieldT_ok hf
   obtain ⟨xs, hx, hxk, hoff⟩ := getF_one hz
   rw [hx] at r
   obtain ⟨cs, hv, hr⟩ := r.agg
   rw [hx] at hz
   obtain ⟨h4, h5⟩ := hr.getF hz
   simp at h4
   have hcopy : Rep w.heap S ow ⟨t, []⟩ ((cs.toList.drop f.offset).take z.w) z := by
    have h6 := h5.move (fun _ => false) (S' := S) (o' := ow) (h' := w.heap) (fun b h => ⟨h, rfl⟩) (fun b m hb _ => ⟨hb, .of_eq rfl⟩) ⟨t, []⟩ (fun b q hb => by
     exfalso
     have := s.wo.rt _ _ hb
     simp [Loc.ext, Loc.flds] at this
     omega)
    rwa [killP_false] at h6
   unfold aggT at h3
   split at h3
   ·rename_i ft' hft
    simp at h3
    refine ⟨.agg (cs.extract f.offset (f.offset + i.size)), w, by simp [execOp, ho, hv, Instr.field, run_underlying hu, hff, asAgg, part, isAgg, run_underlying hft, sizeOf, typeInfo, hi], .same s hK ?_⟩
    have hzz : ∃ zs, z = .agg zs := by cases z <;> simp [isAggA] at h3; exact ⟨_, rfl⟩
    obtain ⟨zs, rfl⟩ := hzz
    refine .mkAgg ?_
    have : (cs.extract f.offset (f.offset + i.size)).toList = (cs.toList.drop f.offset).take (AVal.agg zs).w := by
     rw [Array.toList_extract, List.extract_eq_take_drop, h2, <- his]
     congr 1; omega
    rw [this]; exact hcopy
   ·rename_i n ft' hft
    simp at h3
    refine ⟨.agg (cs.extract f.offset (f.offset + i.size)), w, by simp [execOp, ho, hv, Instr.field, run_underlying hu, hff, asAgg, part, isAgg, run_underlying hft, sizeOf, typeInfo, hi], .same s hK ?_⟩
    have hzz : ∃ zs, z = .agg zs := by cases z <;> simp [isAggA] at h3; exact ⟨_, rfl⟩
    obtain ⟨zs, rfl⟩ := hzz
    refine .mkAgg ?_
    have : (cs.extract f.offset (f.offset + i.size)).toList = (cs.toList.drop f.offset).take (AVal.agg zs).w := by
     rw [Array.toList_extract, List.extract_eq_take_drop, h2, <- his]
     congr 1; omega
    rw [this]; exact hcopy
   ·rename_i d hn1 hn2 hft
    simp at h3
    have hone := w_one h3
    have hlt : f.offset < cs.size := by omega
    have hia : (isAgg f.type).run c.g.P w = .ok false w := by
     cases d <;> first | (simp [isAgg, run_underlying hft]; done) | (exfalso; first | exact hn1 _ rfl | exact hn2 _ _ rfl)
    have hv1 : (cs.toList.drop f.offset).take z.w = [cs[f.offset]] := by
     rw [hone, List.drop_eq_getElem_cons (by simpa using hlt)]
     simp
    rw [hv1] at hcopy
    have h7 := hcopy.ones cs[f.offset] (by simp)
    refine ⟨cs[f.offset], w, by simp [execOp, ho, hv, Instr.field, run_underlying hu, hff, asAgg, part, hia, hlt], .same s hK (.mk (by cases hq : cs[f.offset] <;> simp_all [Value.oneCell', isAggV]) h3 hcopy)⟩
   ·cases h3
  ·exact h.elim
 ·exact h.elim
theorem ok_makeSlice (s : St c w0 S0 o0 cargs e a w S ow) (ht : free ow t) (htn : t <= c.nt) (hc : constsOk c o.op = true) {ty : TypeId} {len cap : Operand} (ho : o.op = .makeSlice ty len cap)
  (h : match elemT c.g.P ty with
  | some el => match zeroOf c.g.P el, opV e len, opV e cap with
   | some z, .lit (.int .i64 n), .lit (.int .i64 m) => 0 <= n /\ n <= m /\ fits c.g.P el m.toNat /\ 0 < z.w /\ K (.lst true (c.g.P.cellsOf el) (List.replicate n.toNat z)) e
   | _, _, _ => False
  | none => False) (hnz : ∀ ty' z, zeroOf c.g.P ty' = some z -> noRef z = true) :
  ∃ v w1, (execOp a.eval o).run c.g.P w = .ok (.value v) w1 /\ Out c w0 S0 o0 cargs a w t ow K v w1 := by
 have rl := opV_sound s len (constsOk_mem hc (by simp [ho, Op.operands])) ⟨t, []⟩
 have rc := opV_sound s cap (constsOk_mem hc (by simp [ho, Op.operands])) ⟨t, []⟩
 split at h
 ·rename_i el hel
  split at h
  ·rename_i z n m hz hn hm
   rw [hn] at rl; rw [hm] at rc
   obtain ⟨en, _⟩ := rl.lit
   obtain ⟨em, _⟩ := rc.lit
   obtain ⟨h0, h1, ⟨h2, h2'⟩, h3, hK⟩ := h
   obtain ⟨i, zv, hi, hzv, hsz, hag, hrep⟩ := zeroOf_ok (S := S) hz
   have hu := elemT_ok hel
   have hcz : c.g.P.cellsOf el = z.w := by unfold Program.cellsOf; rw [hi]; exact hsz
   have hby : c.g.P.bytesOf el = i.bytes := by unfold Program.bytesOf; rw [hi]; rfl
   rw [hby] at h2
   have hmax : m <= 9223372036854775807 := by simp only [maxLen] at h2'; omega
   have hb2 : (i.bytes : Int) * m <= 281474976710656 := by
    have e1 : ((m.toNat * i.bytes : Nat) : Int) <= 281474976710656 := by omega
    rw [Int.natCast_mul, Int.toNat_of_nonneg (by omega), Int.mul_comm] at e1
    exact e1
   have hr := run_make (P := c.g.P) w ty el i zv hu hi hzv .i64 .i64 n m h0 h1 hb2 hmax
   obtain ⟨s1, hold, hnew⟩ := s.alloc (.cells (madeCells zv.cells (m.toNat * i.size)) el) (tl := ⟨t, []⟩) (fun b hb => ht b _ hb rfl) htn
   have hzs : zv.cells.size = z.w := by
    have := (hrep #[] (fun _ => none) ⟨0, []⟩).len
    simpa using this
   refine ⟨_, _, by simp [execOp, ho, en, em, hr]; rfl, _, e, S, _, hK, s1, .mk rfl rfl ?_, newO_newAt ⟨[], by simp [Loc.ext]⟩, fun b hb => heap_alloc_old w _ b hb⟩
   have hl : (List.replicate n.toNat z).length = n.toNat := by simp
   have := Rep.lst (S := S) (o := newO ow w.heap.size ⟨t, []⟩) (l := ⟨t, []⟩) (sz := c.g.P.cellsOf el) (xs := List.replicate n.toNat z) (cap := m.toNat) hnew (newO_at _ _ _) (frOk_zero _)
    (by rw [size_madeCells, hcz, hsz]) (by rw [hl]; omega) (by omega) (by rw [noRefs_all, List.all_eq_true]; intro x hx; rw [List.eq_of_mem_replicate hx]; exact hnz _ _ hz)
    (fun j x hx => by
     have hj : j < n.toNat := by have := (List.getElem?_eq_some_iff.1 hx).1; simpa using this
     rw [List.eq_of_mem_replicate (List.mem_of_getElem? hx)]
     have e1 : ((madeCells zv.cells (m.toNat * i.size)).toList.drop (j * c.g.P.cellsOf el)).take (c.g.P.cellsOf el) = zv.cells.toList := by
      apply List.ext_getElem?
      intro q
      rw [List.getElem?_take]
      split
      ·rename_i hq
       rw [hcz] at hq
       rw [List.getElem?_drop, Array.getElem?_toList, hcz]
       have hlt : j * z.w + q < m.toNat * i.size := by
        rw [hsz]
        have : (j + 1) * z.w <= m.toNat * z.w := Nat.mul_le_mul_right _ (by omega)
        rw [Nat.add_mul, Nat.one_mul] at this
        omega
       simp only [madeCells]
       rw [Array.getElem?_map, Array.getElem?_range, if_pos hlt]
       simp only [Option.map_some]
       rw [hzs, Nat.mul_comm j, Nat.mul_add_mod, Nat.mod_eq_of_lt hq]
       rw [Array.getElem?_toList, Array.getElem?_eq_getElem (by omega), getElem!_pos zv.cells q (by omega)]
      ·rename_i hq
       rw [hcz] at hq
       rw [List.getElem?_eq_none]
       simp [hzs]; omega
     rw [e1]
     exact hrep _ _ _)
   rwa [hl] at this
  ·exact h.elim
 ·exact h.elim
mutual
theorem zeroGo_noRef (P : Program) : ∀ (d : Nat) (t : TypeId) (x : AVal), zeroGo P d t = some x -> noRef x = true := by
 intro d t x h
 cases d with
 | zero => simp [zeroGo] at h
 | succ d =>
  simp only [zeroGo] at h
  split at h
  ·split at h
   ·rename_i xs hx
    cases h
    exact zeroGos_noRef P d _ xs hx
   ·cases h
  ·cases h; rfl
  ·cases h
  ·split at h
   ·split at h
    ·split at h
     ·cases h; rfl
     ·cases h
    ·cases h
   ·cases h
theorem zeroGos_noRef (P : Program) : ∀ (d : Nat) (ts : List TypeId) (xs : List AVal), zeroGos P d ts = some xs -> noRefs xs = true := by
 intro d ts xs h
 cases d with
 | zero => simp [zeroGos] at h
 | succ d =>
  cases ts with
  | nil => simp [zeroGos] at h; subst h; rfl
  | cons t ts =>
   simp only [zeroGos] at h
   split at h
   ·rename_i x ys h1 h2
    cases h
    simp only [noRefs, zeroGo_noRef P d t x h1, zeroGos_noRef P d ts ys h2, Bool.and_self]
   ·cases h
end
theorem zeroOf_noRef (P : Program) (t : TypeId) (x : AVal) (h : zeroOf P t = some x) : noRef x = true := by
 unfold zeroOf at h
 split at h
 ·rename_i y i h1 h2
  split at h
  ·split at h
   ·cases h; exact zeroGo_noRef P 60 t x h1
   ·cases h
  ·cases h
 ·cases h
theorem foldl_splice (vs : List Value) (off : Nat) : ∀ (k : Nat) (cs : Array Value), off + k + vs.length <= cs.size →
  ((vs.zipIdx k).foldl (fun cs (x : Value × Nat) => cs.setIfInBounds (off + x.2) x.1) cs).toList = spliced cs (off + k) vs := by
 induction vs with
 | nil => intro k cs h; simp [spliced]
 | cons v vs ih =>
  intro k cs h
  simp only [List.zipIdx_cons, List.foldl_cons]
  simp only [List.length_cons] at h
  rw [ih (k + 1) _ (by simp; omega)]
  simp only [spliced, Array.toList_setIfInBounds]
  have e := list_seg_step cs.toList (off + k) v vs (by simp; omega)
  simpa [Nat.add_assoc] using e
end
end Go.VS
/- VS, sixteenth part: the operations are sound (7): literals of structs and slices. -/
set_option linter.unusedVariables false
set_option linter.unusedSimpArgs false
namespace Go.VS
variable {c : Ctx} {w0 : World} {S0 : Nat -> Prop} {o0 : Own} {cargs : Array Value} {e : Env} {a : Act} {w : World} {S : Nat -> Prop} {ow : Own}
section
variable {rid t : Nat} {o : Oper} {K : AVal -> Env -> Prop}
def putAll (css : List (List Value)) : List (Nat × Value) -> List (List Value)
 | [] => css
 | (k, v) :: ps => putAll (css.set k v.cells.toList) ps
theorem flatten_len_take (css : List (List Value)) (k : Nat) : (css.take k).flatten.length = ((css.map List.length).take k).sum := by
 rw [List.length_flatten, List.map_take]
theorem fill_ok {place : Nat -> Option (Nat × Nat)} {ws : List Nat} : ∀ (ps : List (Nat × Value)) (css : List (List Value)) (C : Array Value), C.toList = css.flatten -> css.map List.length = ws →
  (∀ k v, (k, v) ∈ ps -> ws[k]? = some v.cells.size /\ place k = some ((ws.take k).sum, v.cells.size)) →
  ∃ C', Instr.fill place C ps = some C' /\ C'.toList = (putAll css ps).flatten /\ (putAll css ps).map List.length = ws
 | [], css, C, hC, hw, _ => ⟨C, rfl, hC, hw⟩
 | (k, v) :: ps, css, C, hC, hw, hp => by
  obtain ⟨h1, h2⟩ := hp k v (by simp)
  have hk : k < css.length := by
   have := (List.getElem?_eq_some_iff.1 h1).1
   rw [<- hw] at this
   simpa using this
  have hc : css[k]? = some css[k] := List.getElem?_eq_getElem hk
  have hlen : css[k].length = v.cells.size := by
   rw [<- hw, List.getElem?_map, hc] at h1
   simpa using h1
  have hoff : (css.take k).flatten.length = (ws.take k).sum := by rw [flatten_len_take, hw]
  have hfl : css.flatten = (css.take k).flatten ++ (css[k] ++ (css.drop (k + 1)).flatten) := by
   have := flatten_set (c' := css[k]) hc
   rwa [List.set_getElem_self] at this
  have hsz : C.size = (ws.take k).sum + (v.cells.size + (css.drop (k + 1)).flatten.length) := by
   rw [<- Array.length_toList, hC, hfl]
   simp only [List.length_append]
   rw [hoff, hlen]
  have hfold := foldl_splice v.cells.toList (ws.take k).sum 0 C (by simp; omega)
  have hz : v.cells.toList.zipIdx 0 = v.cells.zipIdx.toList := by simp
  have hnew : (v.cells.zipIdx.foldl (fun cs (x : Value × Nat) => cs.setIfInBounds ((ws.take k).sum + x.2) x.1) C).toList = (css.set k v.cells.toList).flatten := by
   rw [<- Array.foldl_toList, <- hz, hfold, flatten_set hc]
   unfold spliced
   rw [hC, hfl, Nat.add_zero, <- hoff]
   have := splice_part (A := (css.take k).flatten) (B := css[k]) (C := (css.drop (k + 1)).flatten) (off := 0) (w := v.cells.toList.length) (by rw [hlen]; simp) v.cells.toList
   rw [Nat.add_zero] at this
   rw [this]
   have e1 : css[k].drop (0 + v.cells.toList.length) = [] := by rw [List.drop_eq_nil_of_le]; rw [hlen]; simp
   rw [e1]
   simp
  have hw' : (css.set k v.cells.toList).map List.length = ws := by
   rw [List.map_set, hw]
   apply List.ext_getElem?
   intro i
   by_cases hi : i = k
   ·subst hi
    rw [List.getElem?_set_self (by rw [<- hw]; simpa using hk), h1]
    simp
   ·rw [List.getElem?_set_ne (Ne.symm hi)]
  obtain ⟨C', h3, h4, h5⟩ := fill_ok ps (css.set k v.cells.toList) _ hnew hw' (fun k' v' h => hp k' v' (by simp [h]))
  refine ⟨C', ?_, h4, h5⟩
  unfold Instr.fill
  rw [h2]
  simp only
  rw [if_neg (by simp; omega)]
  rw [<- h3]
theorem placesOk_at {P : Program} : ∀ {fs : List Field} {xs : List AVal} {o : Nat}, placesOk P o fs xs = true -> ∃ pl, fs.mapM (fun f => (P.info? f.type).map fun i => (f.offset, i.size)) = some pl /\ pl.length = xs.length ∧
  ∀ k, k < xs.length -> ∃ x, xs[k]? = some x /\ pl[k]? = some (o + AVal.ws (xs.take k), x.w)
 | [], [], o, _ => ⟨[], rfl, rfl, by simp⟩
 | [], _ :: _, o, h => by simp [placesOk] at h
 | _ :: _, [], o, h => by simp [placesOk] at h
 | f :: fs, x :: xs, o, h => by
  simp only [placesOk, Bool.and_eq_true, beq_iff_eq, decide_eq_true_eq] at h
  obtain ⟨⟨⟨⟨h1, h2⟩, h3⟩, h4⟩, h5⟩ := h
  obtain ⟨pl, h6, h7, h8⟩ := placesOk_at h5
  obtain ⟨i, hi⟩ := Option.isSome_iff_exists.1 h4
  have his : i.size = x.w := by rw [<- h2]; unfold Program.cellsOf; rw [hi]; rfl
  refine ⟨(o, x.w) :: pl, by simp [List.mapM_cons, hi, h6, h1, his], by simp [h7], fun k hk => ?_⟩
  cases k with
  | zero => exact ⟨x, rfl, by simp [AVal.ws]⟩
  | succ k =>
   obtain ⟨y, h9, h10⟩ := h8 k (by simpa using hk)
   exact ⟨y, by simpa using h9, by simpa [AVal.ws, Nat.add_assoc] using h10⟩
theorem ws_sum : ∀ xs : List AVal, AVal.ws xs = (xs.map AVal.w).sum
 | [] => rfl
 | x :: xs => by simp [AVal.ws, ws_sum xs]
theorem setParts_ok (s : St c w0 S0 o0 cargs e a w S ow) {l : Loc} : ∀ (ps : List (Nat × Operand)) (zs xs : List AVal) (css : List (List Value)), (∀ p ∈ ps, constOk c p.2 = true) -> css.length = zs.length →
  (∀ (i : Nat) (cc : List Value) (x : AVal), css[i]? = some cc -> zs[i]? = some x -> Rep w.heap S ow (l.fld i) cc x) -> setParts zs (ps.map fun p => (p.1, opV e p.2)) = some xs →
  xs.length = zs.length /\ xs.map AVal.w = zs.map AVal.w /\ (putAll css (ps.map fun p => (p.1, a.eval p.2))).length = xs.length ∧
  (∀ (i : Nat) (cc : List Value) (x : AVal), (putAll css (ps.map fun p => (p.1, a.eval p.2)))[i]? = some cc -> xs[i]? = some x -> Rep w.heap S ow (l.fld i) cc x) ∧
  (∀ k v, (k, v) ∈ ps.map (fun p => (p.1, a.eval p.2)) -> ∃ z, zs[k]? = some z /\ v.cells.size = z.w)
 | [], zs, xs, css, _, hl, hr, h => by
  simp only [List.map_nil, setParts, Option.some.injEq] at h
  subst h
  exact ⟨rfl, rfl, hl, hr, by simp⟩
 | (k, p) :: ps, zs, xs, css, hc, hl, hr, h => by
  have rp := opV_sound s p (hc (k, p) (by simp)) (l.fld k)
  simp only [List.map_cons, setParts] at h
  split at h
  ·rename_i z hz
   have hk : k < zs.length := (List.getElem?_eq_some_iff.1 hz).1
   have key : ∀ (zs' : List AVal), zs'.length = zs.length -> zs'.map AVal.w = zs.map AVal.w -> (a.eval p).cells.size = z.w -> (∀ (i : Nat) (cc : List Value) (x : AVal), (css.set k (a.eval p).cells.toList)[i]? = some cc -> zs'[i]? = some x -> Rep w.heap S ow (l.fld i) cc x) →
     setParts zs' (ps.map fun p => (p.1, opV e p.2)) = some xs -> _ := fun zs' h1 h2 h3 h4 h5 => by
    obtain ⟨i1, i2, i3, i4, i5⟩ := setParts_ok s ps zs' xs (css.set k (a.eval p).cells.toList) (fun q hq => hc q (by simp [hq])) (by simp [hl, h1]) h4 h5
    have hwz : ∀ (j : Nat) (y : AVal), zs'[j]? = some y -> ∃ y' : AVal, zs[j]? = some y' /\ y'.w = y.w := fun j y hy => by
     have : (zs'.map AVal.w)[j]? = some y.w := by rw [List.getElem?_map, hy]; rfl
     rw [h2, List.getElem?_map] at this
     obtain ⟨y', hy', e1⟩ := Option.map_eq_some_iff.1 this
     exact ⟨y', hy', e1⟩
    exact (⟨i1.trans h1, i2.trans h2, i3, i4, fun k' v' hm => by
     simp only [List.map_cons, List.mem_cons, Prod.mk.injEq] at hm
     rcases hm with ⟨rfl, rfl⟩ | hm
     ·exact ⟨z, hz, h3⟩
     ·obtain ⟨y, hy, e1⟩ := i5 k' v' hm
      obtain ⟨y', hy', e2⟩ := hwz k' y hy
      exact ⟨y', hy', e1.trans e2.symm⟩⟩ :
     xs.length = zs.length /\ xs.map AVal.w = zs.map AVal.w /\ (putAll css (((k, p) :: ps).map fun p => (p.1, a.eval p.2))).length = xs.length ∧
     (∀ (i : Nat) (cc : List Value) (x : AVal), (putAll css (((k, p) :: ps).map fun p => (p.1, a.eval p.2)))[i]? = some cc -> xs[i]? = some x -> Rep w.heap S ow (l.fld i) cc x) ∧
     (∀ k' v', (k', v') ∈ ((k, p) :: ps).map (fun p => (p.1, a.eval p.2)) -> ∃ z, zs[k']? = some z /\ v'.cells.size = z.w))
   split at h
   ·rename_i hx
    rw [hx] at rp
    obtain ⟨hv, _⟩ := rp.lit
    split at h
    ·rename_i hnil
     have hzn : ∃ sz, z = .lst true sz [] := by
      unfold setParts.isNilList at hnil
      split at hnil
      ·exact ⟨_, rfl⟩
      ·cases hnil
     obtain ⟨sz, rfl⟩ := hzn
     refine key zs rfl rfl (by rw [hv]; rfl) (fun i cc x hcc hx' => ?_) h
     by_cases hi : i = k
     ·subst hi
      rw [hz] at hx'
      cases hx'
      rw [List.getElem?_set_self (by omega)] at hcc
      cases hcc
      rw [hv]
      exact .nil
     ·rw [List.getElem?_set_ne (Ne.symm hi)] at hcc
      exact hr i cc x hcc hx'
    ·cases h
   ·split at h
    ·rename_i hcond
     obtain ⟨hw, hst⟩ := hcond
     have rr := rp.ones (by intro hh; rw [hh] at hst; cases hst) (by intro q hh; rw [hh] at hst; cases hst)
     have hcs : (a.eval p).cells.size = (opV e p).w := by rw [<- rr.len]; simp
     refine key (zs.set k (opV e p)) (by simp) ?_ (hcs.trans hw) (fun i cc x hcc hx' => ?_) h
     ·rw [List.map_set]
      apply List.ext_getElem?
      intro i
      by_cases hi : i = k
      ·subst hi
       rw [List.getElem?_set_self (by simpa using hk), List.getElem?_map, hz, hw]
       rfl
      ·rw [List.getElem?_set_ne (Ne.symm hi)]
     ·by_cases hi : i = k
      ·subst hi
       rw [List.getElem?_set_self (by omega)] at hcc hx'
       cases hcc
       cases hx'
       exact rr
      ·rw [List.getElem?_set_ne (Ne.symm hi)] at hcc hx'
       exact hr i cc x hcc hx'
    ·cases h
  ·cases h
theorem structOf_ok {P : Program} {ty : TypeId} {zs : List AVal} (h : structOf P ty = some zs) : ∃ fs i z, P.underlying ty = some (.struct fs) /\ P.info? ty = some i /\ i.zero = some z /\ placesOk P 0 fs.toList zs = true ∧
  ∀ (hp : Array Obj) (o : Own) (l : Loc), Rep hp S o l z.cells.toList (.agg zs) := by
 unfold structOf at h
 split at h
 ·rename_i xs fs hz hu
  split at h
  ·rename_i hp
   cases h
   obtain ⟨i, z, h1, h2, h3, h4, h5⟩ := zeroOf_ok (S := S) hz
   exact ⟨fs, i, z, hu, h1, h2, hp, h5⟩
  ·cases h
 ·cases h
theorem ok_build (s : St c w0 S0 o0 cargs e a w S ow) (hc : constsOk c o.op = true) {ty : TypeId} {parts : Array (Nat × Operand)} (ho : o.op = .build ty parts)
  (h : match structOf c.g.P ty with
  | some zs => match setParts zs (parts.toList.map fun p => (p.1, opV e p.2)) with
   | some xs => K (.agg xs) e
   | none => False
  | none => False) :
  ∃ v w1, (execOp a.eval o).run c.g.P w = .ok (.value v) w1 /\ Out c w0 S0 o0 cargs a w t ow K v w1 := by
 split at h
 ·rename_i zs hzs
  split at h
  ·rename_i xs hxs
   obtain ⟨fs, i, z, hu, hi, hz, hpl, hrep⟩ := structOf_ok (S := S) hzs
   obtain ⟨css, h1, h2, h3⟩ := (hrep w.heap ow ⟨t, []⟩).agg_inv
   obtain ⟨pl, h4, h5, h6⟩ := placesOk_at hpl
   have hcs : ∀ p ∈ parts.toList, constOk c p.2 = true := fun p hp => constsOk_mem hc (by
    simp only [ho, Op.operands, List.mem_toArray, List.mem_map]
    exact ⟨p, hp, rfl⟩)
   obtain ⟨i1, i2, i3, i4, i5⟩ := setParts_ok s parts.toList zs xs css hcs h1 h3 hxs
   have hws : css.map List.length = zs.map AVal.w := by
    apply List.ext_getElem?
    intro j
    rw [List.getElem?_map, List.getElem?_map]
    cases hj : css[j]? with
    | none =>
     rw [List.getElem?_eq_none_iff] at hj
     rw [List.getElem?_eq_none (by omega)]; rfl
    | some cc =>
     have hlt := (List.getElem?_eq_some_iff.1 hj).1
     have hzj : zs[j]? = some zs[j] := List.getElem?_eq_getElem (by omega)
     rw [hzj]
     simp [(h3 j cc _ hj hzj).len]
   obtain ⟨C', f1, f2, f3⟩ := fill_ok (place := fun k => pl.toArray[k]?) (ws := zs.map AVal.w) (parts.toList.map fun p => (p.1, a.eval p.2)) css z.cells h2 hws (fun k v hkv => by
    obtain ⟨y, hy, hv⟩ := i5 k v hkv
    have hk := (List.getElem?_eq_some_iff.1 hy).1
    obtain ⟨y', hy', hp'⟩ := h6 k hk
    rw [hy] at hy'
    cases hy'
    refine ⟨by rw [List.getElem?_map, hy, hv]; rfl, ?_⟩
    simp only [List.getElem?_toArray]
    rw [hp', hv, Nat.zero_add, ws_sum, List.map_take])
   have hb : c.g.P.built ty ((parts.map fun p => (p.1, a.eval p.2)).toList) = some C' := by
    unfold Program.built
    rw [hi, hu]
    simp only [hz, h4, Array.toList_map]
    exact f1
   refine ⟨.agg C', w, ?_, .same s h (.mkAgg ?_)⟩
   ·simp [execOp, ho, run_build w ty _ C' hb]
   ·rw [f2]
    exact .agg i3 i4
  ·exact h.elim
 ·exact h.elim
theorem putAll_range : ∀ (vs : List Value) (k : Nat) (css : List (List Value)), k + vs.length = css.length →
  putAll css ((vs.zipIdx k).map fun x => (x.2, x.1)) = css.take k ++ vs.map fun v => v.cells.toList
 | [], k, css, h => by simp [putAll, List.take_of_length_le (show css.length <= k by simp at h; omega)]
 | v :: vs, k, css, h => by
  simp only [List.zipIdx_cons, List.map_cons, putAll]
  simp only [List.length_cons] at h
  rw [putAll_range vs (k + 1) _ (by simp; omega)]
  rw [List.take_set, List.take_succ_eq_append_getElem (by omega)]
  rw [List.set_append_right _ _ (by simp; omega)]
  have h0 : k - min k css.length = 0 := by omega
  simp [h0]
theorem chunks (sz : Nat) : ∀ (n : Nat) (L : List Value), L.length = n * sz -> ∃ css : List (List Value), css.length = n /\ css.flatten = L /\ css.map List.length = List.replicate n sz
 | 0, L, h => ⟨[], rfl, by simp at h; simp [h], rfl⟩
 | n + 1, L, h => by
  rw [Nat.add_mul, Nat.one_mul] at h
  obtain ⟨css, h1, h2, h3⟩ := chunks sz n (L.drop sz) (by rw [List.length_drop]; omega)
  refine ⟨L.take sz :: css, by simp [h1], by rw [List.flatten_cons, h2, List.take_append_drop], ?_⟩
  rw [List.map_cons, h3, List.replicate_succ, List.length_take, Nat.min_eq_left (by omega)]
theorem flatten_uniform {css : List (List Value)} {sz : Nat} (h : ∀ cc ∈ css, cc.length = sz) {i : Nat} {cc : List Value} (hi : css[i]? = some cc) : (css.flatten.drop (i * sz)).take sz = cc := by
 have hl : ∀ (css : List (List Value)), (∀ cc ∈ css, cc.length = sz) -> css.flatten.length = css.length * sz := by
  intro css
  induction css with
  | nil => intro _; simp
  | cons d css ih =>
   intro h
   rw [List.flatten_cons, List.length_append, ih (fun x hx => h x (by simp [hx])), h d (by simp), List.length_cons, Nat.add_mul, Nat.one_mul]; omega
 have hk : i < css.length := (List.getElem?_eq_some_iff.1 hi).1
 have e := flatten_set (c' := cc) hi
 have hs : css.set i cc = css := by
  have := (List.getElem?_eq_some_iff.1 hi).2
  rw [<- this, List.set_getElem_self]
 rw [hs] at e
 have h1 : (css.take i).flatten.length = i * sz := by
  rw [hl _ (fun x hx => h x (List.mem_of_mem_take hx)), List.length_take, Nat.min_eq_left (by omega)]
 rw [e, <- h1, List.drop_left, List.take_append_of_le_length (by rw [h cc (List.mem_of_getElem? hi)]; exact Nat.le_refl _), <- h cc (List.mem_of_getElem? hi), List.take_length]
theorem moveVs_stOk {mvr : Nat -> Bool} : ∀ {xs ys : List AVal} {e e1 : Env}, moveVs mvr xs e = some (ys, e1) -> (∀ y ∈ ys, stOk y = true) -> ∀ x ∈ xs, stOk x = true
 | [], _, _, _, _, _, x, hx => by simp at hx
 | x :: xs, ys, e, e1, h, hy, z, hz => by
  simp only [moveVs] at h
  split at h
  ·rename_i y e' h1
   split at h
   ·rename_i ys' e2 h2
    cases h
    simp only [List.mem_cons] at hz
    rcases hz with rfl | hz
    ·have h3 := hy y (by simp)
     obtain ⟨_, _, h5, _⟩ := moveV_agg h1
     cases z <;> try rfl
     ·rw [h5.1 rfl] at h3; cases h3
     ·simp [moveV] at h1
    ·exact moveVs_stOk h2 (fun u hu => hy u (by simp [hu])) z hz
   ·cases h
  ·cases h
theorem ok_buildSlice (s : St c w0 S0 o0 cargs e a w S ow) (ht : free ow t) (htn : t <= c.nt) (hc : constsOk c o.op = true) {ty : TypeId} {len : Nat} {parts : Array (Nat × Operand)} (ho : o.op = .buildSlice ty len parts)
  (h : match elemT c.g.P ty with
  | some el => (parts.toList.map (·.1) = List.range len) /\ 0 < c.g.P.cellsOf el /\ len * c.g.P.cellsOf el <= 2 ^ 24 /\ (zeroOf c.g.P el).isSome ∧
    movesK (c.mvr rid t) (parts.toList.map fun p => fixNil c.g.P el (opV e p.2)) e fun ys e1 => (∀ y ∈ ys, y.w = c.g.P.cellsOf el /\ noRef y = true /\ stOk y = true) /\ K (.lst true (c.g.P.cellsOf el) ys) e1
  | none => False) :
  ∃ v w1, (execOp a.eval o).run c.g.P w = .ok (.value v) w1 /\ Out c w0 S0 o0 cargs a w t ow K v w1 := by
 split at h
 ·rename_i el hel
  obtain ⟨h1, h2, h3, h4, h5⟩ := h
  obtain ⟨z, hz⟩ := Option.isSome_iff_exists.1 h4
  obtain ⟨i, zv, hi, hzv, hsz, hag, hrep⟩ := zeroOf_ok (S := S) hz
  have hu := elemT_ok hel
  have his : i.size = c.g.P.cellsOf el := by unfold Program.cellsOf; rw [hi]; rfl
  generalize hS : c.g.P.cellsOf el = sz at *
  unfold movesK at h5
  split at h5
  ·rename_i ys e1 hm
   obtain ⟨hys, hK⟩ := h5
   have hst := moveVs_stOk hm (fun y hy => (hys y hy).2.2)
   have hplen : parts.toList.length = len := by have := congrArg List.length h1; simpa using this
   let vs := parts.toList.map fun p => a.eval p.2
   have hvlen : vs.length = len := by simp [vs, hplen]
   have hsrc : ∀ (j : Nat) (cc : List Value) (x : AVal), (vs.map fun v => v.cells.toList)[j]? = some cc -> (parts.toList.map fun p => fixNil c.g.P el (opV e p.2))[j]? = some x →
     Rep w.heap S ow ((⟨c.nt + 1, []⟩ : Loc).fld (0 + j)) cc x := fun j cc x hcc hx => by
    simp only [vs, List.getElem?_map] at hcc
    rw [List.getElem?_map] at hx
    cases hp : parts.toList[j]? with
    | none => rw [hp] at hx; cases hx
    | some p =>
     rw [hp] at hcc hx
     cases hcc
     have hxm := hst x (List.mem_of_getElem? (by rw [List.getElem?_map, hp]; exact hx))
     cases hx
     have rp := opV_sound s p.2 (constsOk_mem hc (by
      simp only [ho, Op.operands, List.mem_toArray, List.mem_map]
      exact ⟨p, List.mem_of_getElem? hp, rfl⟩)) ((⟨c.nt + 1, []⟩ : Loc).fld (0 + j))
     exact (fixNil_rep rp).ones (by intro hh; simp only [hh] at hxm; cases hxm) (by intro q hh; simp only [hh] at hxm; cases hxm)
   obtain ⟨o1, s1, hyl, hyr, n1, _⟩ := moveVs_sound (t := ⟨t, []⟩) (mvr_self c rid t) htn s.clear_far .idx (fun _ _ hh => by simpa using hh) 0 _ (vs.map fun v => v.cells.toList) (by simp [vs]) s
    (fun j _ => (ht.clear []).down _) (fun _ _ hh _ => hh) (fun _ _ hh => .inl hh) hsrc hm
   simp only [List.length_map, hvlen] at hyl
   have hcl : ∀ v ∈ vs, v.cells.toList.length = sz := fun v hv => by
    obtain ⟨j, hj, rfl⟩ := List.getElem_of_mem hv
    have h6 := hyr j (vs[j].cells.toList) ys[j] (by rw [List.getElem?_map, List.getElem?_eq_getElem hj]; rfl) (List.getElem?_eq_getElem (by omega))
    rw [h6.len]
    exact (hys _ (List.getElem_mem _)).1
   let C0 : Array Value := (Array.range (len * sz)).map (fun q => (if len * sz = 0 then #[] else zv.cells)[q % (if len * sz = 0 then (#[] : Array Value) else zv.cells).size]!)
   have hC0 : C0.toList.length = len * sz := by simp [C0]
   obtain ⟨css0, g1, g2, g3⟩ := chunks sz len C0.toList hC0
   have hparts : (parts.toList.map fun p => (p.1, a.eval p.2)) = (vs.zipIdx 0).map fun x => (x.2, x.1) := by
    apply List.ext_getElem?
    intro j
    rw [List.getElem?_map, List.getElem?_map, List.getElem?_zipIdx]
    simp only [vs, List.getElem?_map]
    cases hp : parts.toList[j]? with
    | none => rfl
    | some p =>
     have hj : (parts.toList.map (·.1))[j]? = some p.1 := by rw [List.getElem?_map, hp]; rfl
     rw [h1, List.getElem?_range (by have := (List.getElem?_eq_some_iff.1 hp).1; omega)] at hj
     simp only [Option.some.injEq] at hj
     simp [hj]
   obtain ⟨C', f1, f2, f3⟩ := fill_ok (place := fun q => some (q * sz, sz)) (ws := List.replicate len sz) ((vs.zipIdx 0).map fun x => (x.2, x.1)) css0 C0 g2.symm g3 (fun k v hkv => by
    obtain ⟨⟨v', k'⟩, hm1, hm2⟩ := List.mem_map.1 hkv
    simp only [Prod.mk.injEq] at hm2
    obtain ⟨rfl, rfl⟩ := hm2
    have hk := List.mem_zipIdx hm1
    have hvm : v' ∈ vs := by rw [hk.2.2]; exact List.getElem_mem _
    have hcz : v'.cells.size = sz := by have := hcl v' hvm; simpa using this
    refine ⟨by rw [List.getElem?_replicate, if_pos (by omega), hcz], ?_⟩
    rw [List.take_replicate, Nat.min_eq_left (by omega), hcz]
    simp)
   rw [putAll_range vs 0 css0 (by omega), List.take_zero, List.nil_append] at f2
   have hC' : C'.size = len * sz := by
    rw [<- Array.length_toList, f2]
    have : (vs.map fun v => v.cells.toList).flatten.length = ((vs.map fun v => v.cells.toList).map List.length).sum := by rw [List.length_flatten]
    rw [this]
    rw [putAll_range vs 0 css0 (by omega), List.take_zero, List.nil_append] at f3
    rw [f3]
    simp
   have hne : ∀ b, o1 b ≠ some ⟨t, []⟩ := fun b hb => by
    rcases n1 _ _ hb with hb' | ⟨st, q, hb'⟩
    ·exact ht b _ hb' rfl
    ·simp [Loc.ext] at hb'
   obtain ⟨s2, hold, hnew⟩ := s1.alloc (.cells C' el) (tl := ⟨t, []⟩) hne htn
   have hrun : (Instr.buildSlice ty len (parts.map fun p => (p.1, a.eval p.2))).run c.g.P w = .ok (.slice (some ⟨w.heap.size, 0, none⟩) len len) (w.alloc (.cells C' el)) := by
    have hbig : ¬ (len * sz > 2 ^ 24) := by omega
    have hfill : Instr.fill (fun q => some (q * sz, sz)) C0 (parts.map fun p => (p.1, a.eval p.2)).toList = some C' := by
     rw [Array.toList_map, hparts]; exact f1
    by_cases hz0 : len * sz = 0
    ·simp only [C0, hz0, if_true] at hfill
     simp only [Instr.buildSlice, Sem.run_bind, run_underlying hu, Result.andThen_ok, sizeOf, typeInfo, run_program, hi, Sem.run_pure, his, hz0, if_true]
     simp only [Sem.run_ite, Sem.run_pure, Result.andThen_ok, show ¬ (0 > 2 ^ 24) by omega, if_false, hfill, newRow, Sem.run_bind, run_newObj]
     rfl
    ·simp only [C0, hz0, if_false] at hfill
     simp only [Instr.buildSlice, Sem.run_bind, run_underlying hu, Result.andThen_ok, sizeOf, typeInfo, run_program, hi, Sem.run_pure, his, hz0, if_false, hbig]
     simp only [zeroValue, typeInfo, Sem.run_ite, Sem.run_bind, run_program, hi, hzv, Sem.run_pure, Result.andThen_ok, if_false, hfill, newRow, run_newObj]
     rfl
   refine ⟨.slice (some ⟨w.heap.size, 0, none⟩) len len, _, by simp [execOp, ho, hrun], _, e1, S, _, hK, s2, .mk rfl rfl ?_, (n1.at).trans (newO_newAt ⟨[], by simp [Loc.ext]⟩), fun b hb => heap_alloc_old w _ b hb⟩
   have hylen : ys.length = len := hyl
   have := Rep.lst (S := S) (o := newO o1 w.heap.size ⟨t, []⟩) (l := ⟨t, []⟩) (sz := sz) (xs := ys) (cap := len) hnew (newO_at _ _ _) (frOk_zero _) hC' (by omega) (by
     have : len <= len * sz := Nat.le_mul_of_pos_right _ h2
     simp only [maxLen]; omega)
    (by rw [noRefs_all, List.all_eq_true]; exact fun y hy => (hys y hy).2.1) (fun j y hy => by
     have hj : j < len := by have := (List.getElem?_eq_some_iff.1 hy).1; omega
     have hvj : (vs.map fun v => v.cells.toList)[j]? = some (vs[j]'(by omega)).cells.toList := by
      rw [List.getElem?_map, List.getElem?_eq_getElem (by omega)]; rfl
     have hr := hyr j _ y hvj hy
     rw [f2, flatten_uniform (sz := sz) (fun cc hcc => by
      obtain ⟨v, hv, rfl⟩ := List.mem_map.1 hcc
      exact hcl v hv) hvj]
     rw [Nat.zero_add, Loc.ext_idx] at hr
     exact hr.grown (fun b hb => heap_alloc_old w _ b (s1.wo.sh b hb).2) (fun b m hb => ⟨hold b m hb, heap_alloc_old w _ b (s1.wo.lt b m hb).1⟩))
   rwa [hylen] at this
  ·exact h5.elim
 ·exact h.elim
end
end Go.VS
/- VS, seventeenth part: stores. -/
set_option linter.unusedVariables false
set_option linter.unusedSimpArgs false
namespace Go.VS
variable {c : Ctx} {w0 : World} {S0 : Nat -> Prop} {o0 : Own} {cargs : Array Value} {e : Env} {a : Act} {w : World} {S : Nat -> Prop} {ow : Own}
def nodePut0 (i : Nat) (fs : List Nat) (y : AVal) : AVal -> AVal
 | .lst true sz xs => .lst true sz (xs.modify i (putF fs y))
 | .ptr true x => .ptr true (putF fs y x)
 | x => x
def setAt0 (l : Loc) (i : Nat) (fs : List Nat) (y : AVal) (e : Env) : Env :=
 match getE e l with
 | some node => fun r => if r = l.r then putP l.p (nodePut0 i fs y node) (e r) else e r
 | none => e
theorem setAt0_eq (l : Loc) (i : Nat) (fs : List Nat) (y : AVal) (e : Env) : setAt l i fs y (fun _ => false) e = setAt0 l i fs y e := by
 have hn : ∀ node, nodePut i fs y (fun _ => false) node = nodePut0 i fs y node := by
  intro node
  unfold nodePut nodePut0
  split <;> first | rfl | (simp only [killP_false])
 cases h : getE e l with
 | none => simp only [setAt, setAt0, h]
 | some node => simp only [setAt, setAt0, h, killP_false, hn]
def storeOk (e : Env) (l : Loc) (node y : AVal) : Prop := (noRef y = true \/ isPtr node = true) /\ (viaLst l.p (e l.r) = false \/ (noRef y = true /\ noRef node = true))
def storeK (c : Ctx) (rid : Nat) (ty : TypeId) (x v : Operand) (e : Env) (K : Env -> Prop) : Prop :=
 match opV e x with
 | .adr l i fs off => match getE e l with
  | some node => match nodeAt i fs node with
   | some (off', y) => off' = off /\ y.w = c.g.P.cellsOf ty /\ 0 < y.w ∧
    if refsOk (c.mvr rid l.r) (fixNil c.g.P ty (opV e v)) = true then
     (fixNil c.g.P ty (opV e v)).w = y.w /\ stOk (opV e v) = true /\ storeOk e l node (fixNil c.g.P ty (opV e v)) /\ K (setAt0 l i fs (fixNil c.g.P ty (opV e v)) e)
    else
     moveK (c.mvr rid l.r) (fixNil c.g.P ty (opV (setAt l i fs (killP (below ((l.idx i).flds fs)) (blank y)) (below ((l.idx i).flds fs)) e) v)) (setAt l i fs (killP (below ((l.idx i).flds fs)) (blank y)) (below ((l.idx i).flds fs)) e) fun y' e2 =>
      storeOk e l node (killP (below ((l.idx i).flds fs)) (blank y)) ∧
      match getE e2 l with
      | some node2 => match nodeAt i fs node2 with
       | some (off2, y2) => off2 = off /\ y'.w = y2.w /\ y2.w = c.g.P.cellsOf ty /\ stOk y' = true /\ storeOk e2 l node2 y' /\ K (setAt0 l i fs y' e2)
       | none => False
      | none => False
   | none => False
  | none => False
 | _ => False
def dropO (o : Own) (D : Loc) : Own := fun b => match o b with
 | none => none
 | some m => if m.r = D.r /\ D.p <+: m.p then none else some m
theorem dropO_eq {o : Own} {D : Loc} {b : Nat} {m : Loc} (h : dropO o D b = some m) : o b = some m /\ ¬ (m.r = D.r /\ D.p <+: m.p) := by
 unfold dropO at h
 split at h
 ·cases h
 ·rename_i m' hm'
  split at h
  ·cases h
  ·rename_i hn
   cases h
   exact ⟨hm', hn⟩
theorem dropO_ne {o : Own} {D : Loc} {b : Nat} {m : Loc} (h : o b = some m) (hn : ¬ (m.r = D.r /\ D.p <+: m.p)) : dropO o D b = some m := by
 simp [dropO, h, hn]
theorem dropO_wo {g : Sys} {nt : Nat} (wo : Wo g nt w S ow) (D : Loc) : Wo g nt w S (dropO ow D) :=
 ⟨fun b m h => wo.rt _ _ (dropO_eq h).1, fun b b' m h h' => wo.inj _ _ _ (dropO_eq h).1 (dropO_eq h').1, fun b m h => wo.lt _ _ (dropO_eq h).1, fun b h => ⟨by simp [dropO, (wo.sh b h).1], (wo.sh b h).2⟩, wo.gl, wo.ngs⟩
theorem dropO_fr (fr : Fr w0 S0 o0 w S ow) (D : Loc) : Fr w0 S0 o0 w S (dropO ow D) :=
 ⟨fr.os, fr.tape, fr.output, fr.size, fun b h1 h2 => ⟨by simp [dropO, (fr.old b h1 h2).1], (fr.old b h1 h2).2⟩, fr.grow, fr.only, fr.shp⟩
theorem dropO_clear (o : Own) (D : Loc) : clear (dropO o D) D := fun b q h => (dropO_eq h).2 ⟨rfl, by simp [Loc.ext]⟩
theorem ext_of {D m : Loc} (h : m.r = D.r /\ D.p <+: m.p) : ∃ q, m = D.ext q := by
 obtain ⟨h1, q, h2⟩ := h
 exact ⟨q, by cases m; simp only at h1 h2; subst h1 h2; rfl⟩
theorem stOk_fix {P : Program} {ty : TypeId} {x : AVal} (h : stOk x = true) : stOk (fixNil P ty x) = true := by
 unfold fixNil
 split
 ·split <;> rfl
 ·exact h
theorem stOk_ne {x : AVal} (h : stOk x = true) : x ≠ .undef /\ ∀ xs, x ≠ .tup xs := by
 constructor
 ·intro hh; rw [hh] at h; cases h
 ·intro xs hh; rw [hh] at h; cases h
theorem spliced_same (cur : Array Value) (off n : Nat) : spliced cur off ((cur.toList.drop off).take n) = cur.toList := by
 unfold spliced
 by_cases h : off <= cur.toList.length
 ·have h1 : (cur.toList.drop off).take n ++ (cur.toList.drop off).drop n = cur.toList.drop off := List.take_append_drop _ _
  have h2 : cur.toList.drop (off + ((cur.toList.drop off).take n).length) = (cur.toList.drop off).drop n := by
   rw [List.drop_drop]
   simp only [List.length_take, List.length_drop]
   by_cases hn : n <= cur.toList.length - off
   ·rw [Nat.min_eq_left hn]
   ·rw [Nat.min_eq_right (by omega), List.drop_eq_nil_of_le (by omega), List.drop_eq_nil_of_le (by omega)]
  rw [h2, List.append_assoc, h1, List.take_append_drop]
 ·rw [List.drop_eq_nil_of_le (by omega : cur.toList.length <= off)]
  simp only [List.take_nil, List.append_nil, List.length_nil, Nat.add_zero]
  rw [List.take_of_length_le (by omega), List.drop_eq_nil_of_le (by omega), List.append_nil]
theorem refsOk_any {mvr : Nat -> Bool} {h : Array Obj} {o : Own} {l0 l : Loc} {cs : List Value} {x : AVal} (c0 : clear o l0) (r : Rep h S o l0 cs x) : Rep h S o l cs x := by
 have := r.move (fun _ => false) (S' := S) (h' := h) (o' := o) (fun b h => ⟨h, rfl⟩) (fun b m hb hk => ⟨hb, .of_eq rfl⟩) l fun b q hb => absurd hb (c0 b q)
 rwa [killP_false] at this
theorem setRow_one (w : World) (b : Nat) (cur : Array Value) (t1 : TypeId) (fr : Nat × Nat) (hb : w.heap[b]? = some (.cells cur t1 fr)) (L : List Value) :
  (w.setRow b L.toArray).heap[b]? = some (.cells L.toArray t1 fr) /\ (∀ k, k ≠ b -> (w.setRow b L.toArray).heap[k]? = w.heap[k]?) /\ (w.setRow b L.toArray).heap.size = w.heap.size :=
 ⟨setRow_heap w b cur _ t1 fr hb, fun k hk => setRow_other w b k _ hk, by simp [World.setRow]⟩
theorem St.storeFlat (s : St c w0 S0 o0 cargs e a w S ow) {l : Loc} {i : Nat} {fs : List Nat} {node : AVal} (hg : getE e l = some node) {off : Nat} {y y' : AVal} (hy : nodeAt i fs node = some (off, y)) (hw : y'.w = y.w)
  (hok : storeOk e l node y') {ty : TypeId} (hty : y.w = c.g.P.cellsOf ty) (hp : 0 < y.w) {b : Nat} (hb : ow b = some l) {v : Value} (hr : Rep w.heap S ow ((l.idx i).flds fs) v.cells.toList y') :
  ∃ w1, (storeVar ty ⟨b, off, none⟩ v).run c.g.P w = .ok () w1 /\ St c w0 S0 o0 cargs (setAt0 l i fs y' e) a w1 S ow := by
 obtain ⟨cur, t1, fr, hc, hfit, hfr, _⟩ := s.content hg hy hb
 have hlen : v.cells.size = y.w := by have := hr.len; rw [Array.length_toList] at this; omega
 have hlen' : v.cells.toList.length = y.w := by rw [Array.length_toList]; exact hlen
 obtain ⟨ti, hti, hts⟩ := cellsOf_pos (hty ▸ hp)
 have hrun := run_storeVar c.g.P w ty b off t1 fr cur v hc hfr (by omega) hr.ones ⟨ti, hti, by omega⟩
 obtain ⟨g1, g2, g3⟩ := setRow_one w b cur t1 fr hc (spliced cur off v.cells.toList)
 refine ⟨_, hrun, ?_⟩
 have hbo : ∀ b', ow b' ≠ some l -> b' ≠ b := fun b' h h' => h (h' ▸ hb)
 have hsl : ∀ b', S b' -> b' ≠ b := fun b' h h' => by
  have := (s.wo.sh b' h).1
  rw [h', hb] at this
  cases this
 have wo' : Wo c.g c.nt (w.setRow b (spliced cur off v.cells.toList).toArray) S ow :=
  ⟨s.wo.rt, s.wo.inj, fun b' m h => by rw [g3]; exact s.wo.lt b' m h, fun b' h => by rw [g3]; exact s.wo.sh b' h,
   c.g.stay w _ (fun b' hb' => g2 b' (fun h => by have := (s.wo.lt b l hb).2; omega)) s.wo.gl, by rw [g3]; exact s.wo.ngs⟩
 have fr' : Fr w0 S0 o0 (w.setRow b (spliced cur off v.cells.toList).toArray) S ow := by
  refine ⟨s.fr.os, s.fr.tape, s.fr.output, by rw [g3]; exact s.fr.size, fun b' h1 h2 => ⟨(s.fr.old b' h1 h2).1, ?_⟩, s.fr.grow, s.fr.only, fun b' h1 => (s.fr.shp b' h1).trans ?_⟩
  ·rw [g2 b' (fun h => by have := (s.fr.old b' h1 h2).1; rw [h, hb] at this; cases this)]
   exact (s.fr.old b' h1 h2).2
  ·by_cases h : b' = b
   ·subst h
    refine ⟨fun cur' t' f' hh => ?_, fun es k hh => by rw [hc] at hh; cases hh⟩
    rw [hc] at hh
    cases hh
    exact ⟨_, g1, by rw [List.size_toArray, spliced_length]; omega⟩
   ·exact .of_eq (g2 b' h)
 have hr' : Rep (w.setRow b (spliced cur off v.cells.toList).toArray).heap S ow ((l.idx i).flds fs) v.cells.toList y' := by
  have h1 := hr.move (fun _ => false) (S' := S) (h' := (w.setRow b (spliced cur off v.cells.toList).toArray).heap) (o' := ow) (fun b' h => ⟨h, g2 b' (hsl b' h)⟩)
   (fun b' m hm _ => ⟨hm, by
    by_cases h : b' = b
    ·subst h
     refine ⟨fun cur' t' f' hh => ?_, fun es k hh => by rw [hc] at hh; cases hh⟩
     rw [hc] at hh
     cases hh
     exact ⟨_, g1, by rw [List.size_toArray, spliced_length]; omega⟩
    ·exact .of_eq (g2 b' h)⟩) ((l.idx i).flds fs) (fun b' q hm => ⟨hm, g2 b' (fun h => by
     rw [h, hb] at hm
     have := congrArg Loc.p (Option.some.inj hm)
     simp [Loc.flds, Loc.ext, Loc.idx] at this)⟩)
  rwa [killP_false] at h1
 have := s.setAt hg hy hw hok.1 hok.2 (w' := w.setRow b (spliced cur off v.cells.toList).toArray) (o' := ow) (K := fun _ => false) (cy := v.cells.toList) wo' fr' (fun b' h => g2 b' (hsl b' h)) (fun b' m hm => .inl hm) (fun b' m hm _ => hm) hr'
  (fun b' h => g2 b' (hbo b' h)) (fun b' cur' t' f' hb' hh => by
   obtain rfl := s.wo.inj _ _ _ hb' hb
   rw [hc] at hh
   cases hh
   exact ⟨_, g1, by simp⟩)
 rwa [setAt0_eq] at this
theorem St.dropAt (s : St c w0 S0 o0 cargs e a w S ow) {l : Loc} {i : Nat} {fs : List Nat} {node : AVal} (hg : getE e l = some node) {off : Nat} {y : AVal} (hy : nodeAt i fs node = some (off, y)) {b : Nat} (hb : ow b = some l)
  (hok : storeOk e l node (killP (below ((l.idx i).flds fs)) (blank y))) :
  St c w0 S0 o0 cargs (VS.setAt l i fs (killP (below ((l.idx i).flds fs)) (blank y)) (below ((l.idx i).flds fs)) e) a w S (dropO ow ((l.idx i).flds fs)) := by
 obtain ⟨cur, t1, fr, hc, hfit, hfr, hrep⟩ := s.content hg hy hb
 have hK : ∀ b' m, ow b' = some m -> below ((l.idx i).flds fs) m = false -> dropO ow ((l.idx i).flds fs) b' = some m := fun b' m hm hk => dropO_ne hm fun ⟨h1, h2⟩ => by
  simp [below, h1, fuzzy_of h2] at hk
 refine St.setAt s hg hy (by rw [killP_w, blank_w]) hok.1 hok.2 (w' := w) (o' := dropO ow ((l.idx i).flds fs)) (cy := (cur.toList.drop off).take y.w) (dropO_wo s.wo _) (dropO_fr s.fr _) (fun _ _ => rfl) (fun b' m hm => ?_) hK
  (hrep.blank hK _) (fun _ _ => rfl) (fun b' cur' t' f' hb' hh => ?_)
 ·by_cases h : m.r = ((l.idx i).flds fs).r /\ ((l.idx i).flds fs).p <+: m.p
  ·exact .inr ⟨by simp [dropO, hm, h], ext_of h⟩
  ·exact .inl (dropO_ne hm h)
 ·obtain rfl := s.wo.inj _ _ _ hb' hb
  rw [hc] at hh
  cases hh
  exact ⟨_, hc, (spliced_same _ _ _).symm⟩
theorem moveK_out' (s : St c w0 S0 o0 cargs e a w S ow) {mvr : Nat -> Bool} {tl : Loc} (hmt : mvr tl.r = false) (htr : tl.r <= c.nt) (ct : clear ow tl) {v : Value} {x : AVal} {K : AVal -> Env -> Prop}
  (r : RepV w.heap S ow ⟨c.nt + 1, []⟩ v x) (h : moveK mvr x e K) : ∃ y e1 o1, K y e1 /\ St c w0 S0 o0 cargs e1 a w S o1 /\ RepV w.heap S o1 tl v y /\ newAt ow o1 tl /\ (∀ b m, ow b = some m -> mvr m.r = false -> o1 b = some m) := by
 unfold moveK at h
 split at h
 ·rename_i y e1 hm
  by_cases hx : x = .undef
  ·subst hx
   simp only [moveV] at hm
   cases hm
   exact ⟨_, _, ow, h, s, .inl (.inl rfl), newAt.refl _ _, fun _ _ h _ => h⟩
  ·have ht : ∀ xs, x ≠ .tup xs := fun xs hx => by subst hx; simp [moveV] at hm
   obtain ⟨o1, s1, r1, n1, k1, _⟩ := moveV_sound hmt htr s.clear_far x s ct (fun _ _ h _ => h) (fun _ _ h => .inl h) (r.ones hx ht) hm
   refine ⟨y, e1, o1, h, s1, .inl (.inr ⟨r1, ?_⟩), n1, k1⟩
   rw [(moveV_agg hm).1]
   rcases r with (r | ⟨_, r⟩) | ⟨_, xs, r, _⟩
   ·exact absurd r hx
   ·exact r
   ·exact absurd r (ht xs)
 ·exact h.elim
theorem ok_store (s : St c w0 S0 o0 cargs e a w S ow) {rid : Nat} {o : Oper} (hc : constsOk c o.op = true) {ty : TypeId} {x v : Operand} (ho : o.op = .store ty x v) {K : Env -> Prop} (h : storeK c rid ty x v e K) :
  ∃ w1 e1 o1, (execOp a.eval o).run c.g.P w = .ok .skip w1 /\ K e1 /\ St c w0 S0 o0 cargs e1 a w1 S o1 /\ (∀ b m, o1 b = some m -> ∃ b' m', ow b' = some m' /\ m'.r = m.r) := by
 have rx := opV_sound s x (constsOk_mem hc (by simp [ho, Op.operands])) ⟨c.nt, []⟩
 have rv := opV_sound s v (constsOk_mem hc (by simp [ho, Op.operands])) ⟨c.nt + 1, []⟩
 unfold storeK at h
 split at h
 ·rename_i l i fs off hx
  rw [hx] at rx
  obtain ⟨b, cur, t1, fr, hv, hb, hob⟩ := (rx.one (by simp) rfl (by simp)).adr_inv
  simp only [List.cons.injEq, and_true] at hv
  split at h
  ·rename_i node hg
   split at h
   ·rename_i off' y hy
    obtain ⟨rfl, hty, hp, h⟩ := h
    split at h
    ·obtain ⟨h1, h2, h3, h4⟩ := h
     have rr := (fixNil_rep (P := c.g.P) (t := ty) rv).ones (stOk_ne (stOk_fix h2)).1 (stOk_ne (stOk_fix h2)).2
     obtain ⟨w1, hrun, s1⟩ := s.storeFlat hg hy h1 h3 hty hp hob (refsOk_any (mvr := fun _ => false) s.clear_far rr)
     exact ⟨w1, _, ow, by simp [execOp, ho, hv, Instr.storeAt, Instr.sureAddr, hrun], h4, s1, fun b m hm => ⟨b, m, hm, rfl⟩⟩
    ·rename_i hnf
     have hcopy := h
     have hokd : storeOk e l node (killP (below ((l.idx i).flds fs)) (blank y)) := by
      unfold moveK at hcopy
      split at hcopy
      ·exact hcopy.1
      ·exact hcopy.elim
     have s1 := s.dropAt hg hy hob hokd
     have rv1 := opV_sound s1 v (constsOk_mem hc (by simp [ho, Op.operands])) ⟨c.nt + 1, []⟩
     have hlr : l.r <= c.nt := s.wo.rt _ _ hob
     obtain ⟨y', e2, o2, hK, s2, r2, n2, k2⟩ := moveK_out' s1 (mvr := c.mvr rid l.r) (tl := (l.idx i).flds fs) (mvr_self c rid l.r) hlr (dropO_clear ow _) (fixNil_rep rv1) h
     obtain ⟨_, hK⟩ := hK
     split at hK
     ·rename_i node2 hg2
      split at hK
      ·rename_i off2 y2 hy2
       obtain ⟨rfl, h1, h2, h3, h4, hK⟩ := hK
       have hob2 : o2 b = some l := k2 b l (dropO_ne hob fun ⟨_, h⟩ => by
        have := h.length_le
        simp [Loc.flds, Loc.ext, Loc.idx] at this
        omega) (mvr_self c rid l.r)
       have rr := r2.ones (stOk_ne h3).1 (stOk_ne h3).2
       obtain ⟨w1, hrun, s3⟩ := s2.storeFlat hg2 hy2 h1 h4 h2 (by omega) hob2 rr
       refine ⟨w1, _, o2, by simp [execOp, ho, hv, Instr.storeAt, Instr.sureAddr, hrun], hK, s3, fun b' m hm => ?_⟩
       rcases n2 _ _ hm with h | ⟨q, h⟩
       ·exact ⟨b', m, (dropO_eq h).1, rfl⟩
       ·exact ⟨b, l, hob, by rw [h]; rfl⟩
      ·exact hK.elim
     ·exact hK.elim
   ·exact h.elim
  ·exact h.elim
 ·exact h.elim
end Go.VS
