/- VS: the machine. A code is reckoned through with a stack of what comes after; all that is still to come is kept as data, so that a rewriting looks only at the next step. -/
import Derived.Test.YtejhoajebbigbaaGreatDoorVe
set_option linter.unusedVariables false
set_option linter.unusedSimpArgs false
namespace Go.VS
theorem nr {α : Sort _} {a b : α} (h : a = b) : a = b := h
inductive Draw where
 | chain (qt : Bool) (p : List Nat)
 | tree (qt : Bool) (p : Plan)
 | ex (qt : Bool) (p : Plan)
def chainP : List Nat -> Plan
 | [] => .done
 | i :: is => .take i (chainP is)
abbrev Draws := List (Nat × Draw)
def Draws.at (pl : Draws) (id : Nat) : Option Draw := match pl with
 | [] => none
 | (k, d) :: l => if id = k then some d else Draws.at l id
def Draw.qt : Draw -> Bool
 | .chain q _ => q
 | .tree q _ => q
 | .ex q _ => q
def Draw.plan : Draw -> Plan
 | .chain _ p => chainP p
 | .tree _ p => p
 | .ex _ p => p
def dstL : List Oper -> Nat -> Option Tmp
 | [], _ => none
 | o :: os, n => if n = 0 then o.dst else dstL os (n - 1)
theorem dstL_eq : ∀ (os : List Oper) (n : Nat), dstL os n = (os[n]?).bind (·.dst)
 | [], n => rfl
 | o :: os, 0 => rfl
 | o :: os, n + 1 => by simp [dstL, dstL_eq os n]
def compO (os : List Oper) (o : Oper) : Ins := ⟨o.dst, o.op, o.type, match o.guard with | none => none | some g => some (dstL os g.1, g.2)⟩
theorem compO_eq (ops : Array Oper) (o : Oper) : compO ops.toList o = comp ops o := by
 unfold compO comp
 congr 1
 cases o.guard with
 | none => rfl
 | some g => simp [dstL_eq]
def comps (os : List Oper) : List Oper -> List Ins
 | [] => []
 | o :: l => compO os o :: comps os l
theorem comps_eq (ops : Array Oper) : ∀ l, comps ops.toList l = l.map (comp ops)
 | [] => rfl
 | o :: l => by simp only [comps, compO_eq, comps_eq ops l, List.map_cons]
def opL : List Oper -> Nat -> Option Oper
 | [], _ => none
 | o :: os, n => if n = 0 then some o else opL os (n - 1)
theorem opL_eq : ∀ (os : List Oper) (n : Nat), opL os n = os[n]?
 | [], n => rfl
 | o :: os, 0 => rfl
 | o :: os, n + 1 => by simp [opL, opL_eq os n]
def regC (c : Ctx) (qt : Bool) (rid : Nat) (os : List Oper) : List Nat -> Env -> (Env -> Prop) -> Prop
 | [], e, K => K e
 | i :: is, e, K => match opL os i with
  | some o => stepI c qt rid (compO os o) e fun e1 => regC c qt rid os is e1 K
  | none => False
theorem regC_eq (c : Ctx) (qt : Bool) (rid : Nat) (ops : Array Oper) : ∀ (p : List Nat) (e : Env) (K : Env -> Prop), regC c qt rid ops.toList p e K = regP c qt rid ops (chainP p) e K
 | [], e, K => rfl
 | i :: is, e, K => by
  simp only [regC, chainP, regP, opL_eq, Array.getElem?_toList]
  cases ops[i]? with
  | none => rfl
  | some o =>
   simp only [compO_eq, stepI_eq]
   congr 1
   funext e1
   exact regC_eq c qt rid ops is e1 K
mutual
def regQ (c : Ctx) (qt : Bool) (rid : Nat) (os : List Oper) : Plan -> Env -> (Env -> Prop) -> Prop
 | .done, e, K => K e
 | .take i p, e, K => match opL os i with
  | some o => stepI c qt rid (compO os o) e fun e1 => regQ c qt rid os p e1 K
  | none => False
 | .last i, e, K => match opL os i with
  | some o => stepI c false rid (compO os o) e K
  | none => False
 | .all ps, e, K => regQs c qt rid os ps e K
def regQs (c : Ctx) (qt : Bool) (rid : Nat) (os : List Oper) : Plans -> Env -> (Env -> Prop) -> Prop
 | .nil, e, K => True
 | .cons i p ps, e, K => (match opL os i with
  | some o => stepI c qt rid (compO os o) e fun e1 => regQ c qt rid os p e1 K
  | none => False) /\ regQs c qt rid os ps e K
end
mutual
theorem regQ_eq (c : Ctx) (qt : Bool) (rid : Nat) (ops : Array Oper) : ∀ (p : Plan) (e : Env) (K : Env -> Prop), regQ c qt rid ops.toList p e K = regP c qt rid ops p e K
 | .done, e, K => by simp only [regQ, regP]
 | .take i p, e, K => by
  simp only [regQ, regP, opL_eq, Array.getElem?_toList]
  cases ops[i]? with
  | none => rfl
  | some o =>
   simp only [compO_eq, stepI_eq]
   congr 1
   funext e1
   exact regQ_eq c qt rid ops p e1 K
 | .last i, e, K => by
  simp only [regQ, regP, opL_eq, Array.getElem?_toList]
  cases ops[i]? with
  | none => rfl
  | some o => simp only [compO_eq, stepI_eq]
 | .all ps, e, K => by
  simp only [regQ, regP]
  exact regQs_eq c qt rid ops ps e K
theorem regQs_eq (c : Ctx) (qt : Bool) (rid : Nat) (ops : Array Oper) : ∀ (ps : Plans) (e : Env) (K : Env -> Prop), regQs c qt rid ops.toList ps e K = regPs c qt rid ops ps e K
 | .nil, e, K => by simp only [regQs, regPs]
 | .cons i p ps, e, K => by
  simp only [regQs, regPs, opL_eq, Array.getElem?_toList]
  rw [regQs_eq c qt rid ops ps e K]
  cases ops[i]? with
  | none => rfl
  | some o =>
   simp only [compO_eq, stepI_eq]
   congr 2
   funext e1
   exact regQ_eq c qt rid ops p e1 K
end
def condK (v : AVal) (A B : Prop) : Prop := ∃ b, v = .lit (.bool b) /\ (b = true -> A) /\ (b = false -> B)
def joinAt (pl : Draws) : Operand -> Bool
 | .tmp n => (Draws.at pl (100000 + n)).isSome
 | _ => false
def vm (c : Ctx) (pl : Draws) : Code -> (Ex -> Env -> Prop) -> Env -> Prop
 | .skip, Q, e => Q .normal e
 | .label _, Q, e => Q .normal e
 | .exit id, Q, e => Q (.exit id) e
 | .ret, Q, e => Q .ret e
 | .seq x y, Q, e => vm c pl x (seqQ (vm c pl y Q) Q) e
 | .block id x, Q, e => vm c pl x (blockQ id Q) e
 | .cond o x y, Q, e => match joinAt pl o with
  | false => condK (opV e o) (vm c pl x Q e) (vm c pl y Q e)
  | true => ∃ Q' : Ex -> Env -> Prop, (∀ z e1, Q' z e1 -> Q z e1) /\ condK (opV e o) (vm c pl x Q' e) (vm c pl y Q' e)
 | .region id ops dr, Q, e => match dr, pl.at id with
  | false, _ => regI c false id (comps ops.toList ops.toList) e fun e1 => Q .normal (restrict c e1)
  | true, some (.chain qt p) => regC c qt id ops.toList p e fun e1 => Q .normal (restrict c e1)
  | true, some (.tree qt p) => regQ c qt id ops.toList p e fun e1 => Q .normal (restrict c e1)
  | true, some (.ex qt p) => ∃ T : Env -> Prop, (regQ c qt id ops.toList p e fun e1 => T (restrict c e1)) /\ ∀ E, T E -> Q .normal E
  | true, none => False
 | x, Q, e => VW c x e Q
def okCode (c : Ctx) (pl : Draws) : Code -> Bool
 | .seq x y => okCode c pl x && okCode c pl y
 | .block _ x => okCode c pl x
 | .loop x => okCode c pl x
 | .cond o x y => constOk c o && okCode c pl x && okCode c pl y
 | .region id ops dr => match dr, pl.at id with
  | false, _ => okIdx c ops [] (List.range ops.size)
  | true, some d => planOk c d.qt ops [] (Array.replicate ops.size false) ops.size d.plan
  | true, none => false
 | _ => true
theorem vm_sound {c : Ctx} {pl : Draws} : ∀ (x : Code) (Q : Ex -> Env -> Prop) (e : Env), okCode c pl x = true -> vm c pl x Q e -> VW c x e Q
 | .skip, Q, e, _, h => VW.skip (by simpa only [vm] using h)
 | .label _, Q, e, _, h => VW.label (by simpa only [vm] using h)
 | .exit id, Q, e, _, h => VW.exit (by simpa only [vm] using h)
 | .ret, Q, e, _, h => VW.ret (by simpa only [vm] using h)
 | .seq x y, Q, e, hk, h => by
  simp only [okCode, Bool.and_eq_true] at hk
  simp only [vm] at h
  refine VW.seq ((vm_sound x _ e hk.1 h).mono fun z e1 hz => ?_)
  cases z with
  | normal => exact vm_sound y _ e1 hk.2 hz
  | exit id => exact hz
  | ret => exact hz
 | .block id x, Q, e, hk, h => by
  simp only [okCode] at hk
  simp only [vm] at h
  exact VW.block (vm_sound x _ e hk h)
 | .cond o x y, Q, e, hk, h => by
  simp only [okCode, Bool.and_eq_true] at hk
  simp only [vm] at h
  cases hj : joinAt pl o with
  | false =>
   rw [hj] at h
   obtain ⟨b, hb, h1, h2⟩ := h
   exact VW.cond hk.1.1 hb (fun hb => vm_sound x _ e hk.1.2 (h1 hb)) (fun hb => vm_sound y _ e hk.2 (h2 hb))
  | true =>
   rw [hj] at h
   obtain ⟨Q', hq, b, hb, h1, h2⟩ := h
   exact (VW.cond hk.1.1 hb (fun hb => vm_sound x _ e hk.1.2 (h1 hb)) (fun hb => vm_sound y _ e hk.2 (h2 hb))).mono hq
 | .region id ops dr, Q, e, hk, h => by
  simp only [okCode] at hk
  simp only [vm] at h
  cases dr with
  | false =>
   rw [comps_eq] at h
   exact VW.regionI _ rfl hk h
  | true =>
   cases hp : pl.at id with
   | none => rw [hp] at h; exact h.elim
   | some d =>
    rw [hp] at h hk
    cases d with
    | chain qt p => exact VW.drawn qt (chainP p) hk (by rw [<- regC_eq]; exact h)
    | tree qt p => exact VW.drawn qt p hk (by rw [<- regQ_eq]; exact h)
    | ex qt p =>
     obtain ⟨T, h1, h2⟩ := h
     refine (VW.drawn (Q := fun z e => z = .normal /\ T e) qt p hk (by rw [<- regQ_eq]; simpa only [true_and] using h1)).mono fun z e hz => ?_
     obtain ⟨rfl, hz⟩ := hz
     exact h2 e hz
 | .loop x, Q, e, _, h => by simpa only [vm] using h
 | .rangeFunc .., Q, e, _, h => by simpa only [vm] using h
 | .scope x, Q, e, _, h => by simpa only [vm] using h
 | .goto l, Q, e, _, h => by simpa only [vm] using h
 | .refuse s, Q, e, _, h => by simpa only [vm] using h
def agrees (e : Env) : List (Nat × AVal) -> Prop
 | [] => True
 | (k, x) :: l => e k = x /\ agrees e l
theorem agrees.le : ∀ {l : List (Nat × AVal)} {e : Env}, agrees e l -> Env.le (mkE l) e
 | [], e, _ => fun r => .inr rfl
 | (k, x) :: l, e, h => fun r => by
  simp only [mkE]
  split
  ·rename_i hr
   subst hr
   exact .inl h.1.symm
  ·exact agrees.le h.2 r
inductive Frame : Type 1 where
 | code (x : Code)
 | endB (id : Nat)
 | again (α : Type) (F : α -> List (Nat × AVal)) (I : α -> Prop) (μ : α -> Nat) (n : Nat)
 | stop (Q : Ex -> Env -> Prop)
def againK {α : Type} (F : α -> List (Nat × AVal)) (I : α -> Prop) (μ : α -> Nat) (n : Nat) (e : Env) : Prop := ∃ q, I q /\ μ q < n /\ agrees e (F q)
def fQ (c : Ctx) (pl : Draws) (R : Env -> Prop) : List Frame -> Ex -> Env -> Prop
 | [], .exit _, e => False
 | [], _, e => R e
 | .code x :: fs, .normal, e => vm c pl x (fQ c pl R fs) e
 | .code x :: fs, ex, e => fQ c pl R fs ex e
 | .endB id :: fs, .exit id', e => if id' = id then fQ c pl R fs .normal e else fQ c pl R fs (.exit id') e
 | .endB _ :: fs, ex, e => fQ c pl R fs ex e
 | .again _ F I μ n :: _, .normal, e => againK F I μ n e
 | .again _ _ _ _ _ :: fs, ex, e => fQ c pl R fs ex e
 | .stop Q :: _, ex, e => Q ex e
def nextK (c : Ctx) (pl : Draws) (R : Env -> Prop) (fs : List Frame) : Env -> Prop := fun e => fQ c pl R fs .normal (restrict c e)
section
variable {c : Ctx} {pl : Draws} {R : Env -> Prop} {fs : List Frame} {e : Env}
theorem vm_skip : vm c pl .skip (fQ c pl R fs) e = fQ c pl R fs .normal e := by simp only [vm]
theorem vm_label {l : Nat} : vm c pl (.label l) (fQ c pl R fs) e = fQ c pl R fs .normal e := by simp only [vm]
theorem vm_exit {id : Nat} : vm c pl (.exit id) (fQ c pl R fs) e = fQ c pl R fs (.exit id) e := by simp only [vm]
theorem vm_ret : vm c pl .ret (fQ c pl R fs) e = fQ c pl R fs .ret e := by simp only [vm]
theorem vm_seq {x y : Code} : vm c pl (.seq x y) (fQ c pl R fs) e = vm c pl x (fQ c pl R (.code y :: fs)) e := by
 simp only [vm]
 congr 1
 funext z e1
 cases z <;> simp only [seqQ, fQ]
theorem vm_block {id : Nat} {x : Code} : vm c pl (.block id x) (fQ c pl R fs) e = vm c pl x (fQ c pl R (.endB id :: fs)) e := by
 simp only [vm]
 congr 1
 funext z e1
 cases z <;> simp only [blockQ, fQ]
theorem vm_region {id : Nat} {ops : List Oper} : vm c pl (.region id ops.toArray false) (fQ c pl R fs) e = regI c false id (comps ops ops) e (nextK c pl R fs) := by
 simp only [vm]
 rfl
def drawK (c : Ctx) (pl : Draws) (R : Env -> Prop) (fs : List Frame) (id : Nat) (ops : List Oper) (e : Env) : Option Draw -> Prop
 | some (.chain qt p) => regC c qt id ops p e (nextK c pl R fs)
 | some (.tree qt p) => regQ c qt id ops p e (nextK c pl R fs)
 | some (.ex qt p) => ∃ T : Env -> Prop, (regQ c qt id ops p e fun e1 => T (restrict c e1)) /\ ∀ E, T E -> fQ c pl R fs .normal E
 | none => False
theorem vm_drawn {id : Nat} {ops : List Oper} : vm c pl (.region id ops.toArray true) (fQ c pl R fs) e = drawK c pl R fs id ops e (pl.at id) := by
 simp only [vm]
 cases pl.at id with
 | none => rfl
 | some d => cases d <;> rfl
theorem drawK_chain {id : Nat} {ops : List Oper} {qt : Bool} {p : List Nat} : drawK c pl R fs id ops e (some (.chain qt p)) = regC c qt id ops p e (nextK c pl R fs) := nr rfl
theorem draw_ex {id : Nat} {ops : List Oper} {qt : Bool} {p : Plan} (T : Env -> Prop) (h1 : regQ c qt id ops p e fun e1 => T (restrict c e1)) (h2 : ∀ E, T E -> fQ c pl R fs .normal E) : drawK c pl R fs id ops e (some (.ex qt p)) := ⟨T, h1, h2⟩
theorem forall_eq_mkE {P : Env -> Prop} {l : List (Nat × AVal)} (h : P (mkE l)) : ∀ E, E = mkE l -> P E := fun _ hE => hE ▸ h
theorem drawK_tree {id : Nat} {ops : List Oper} {qt : Bool} {p : Plan} : drawK c pl R fs id ops e (some (.tree qt p)) = regQ c qt id ops p e (nextK c pl R fs) := nr rfl
def branchK (c : Ctx) (pl : Draws) (R : Env -> Prop) (fs : List Frame) (v : AVal) (x y : Code) (e : Env) : Prop := condK v (vm c pl x (fQ c pl R fs) e) (vm c pl y (fQ c pl R fs) e)
def joinB (c : Ctx) (pl : Draws) (R : Env -> Prop) (fs : List Frame) (v : AVal) (x y : Code) (e : Env) : Bool -> Prop
 | false => branchK c pl R fs v x y e
 | true => ∃ Q' : Ex -> Env -> Prop, (∀ z e1, Q' z e1 -> fQ c pl R fs z e1) /\ condK v (vm c pl x Q' e) (vm c pl y Q' e)
theorem joinB_f {v : AVal} {x y : Code} : joinB c pl R fs v x y e false = branchK c pl R fs v x y e := nr rfl
theorem joinAt_const {k : Value} : joinAt pl (.const k) = false := nr rfl
theorem joinAt_tmp {n : Nat} : joinAt pl (.tmp n) = (Draws.at pl (100000 + n)).isSome := nr rfl
def joinQ (c : Ctx) (pl : Draws) (R : Env -> Prop) (fs : List Frame) (T : Env -> Prop) : Ex -> Env -> Prop
 | .normal, e => T e
 | z, e => fQ c pl R fs z e
theorem joinQ_n {T : Env -> Prop} : joinQ c pl R fs T .normal e = T e := nr rfl
theorem joinQ_r {T : Env -> Prop} : joinQ c pl R fs T .ret e = fQ c pl R fs .ret e := nr rfl
theorem joinQ_x {T : Env -> Prop} {id : Nat} : joinQ c pl R fs T (.exit id) e = fQ c pl R fs (.exit id) e := nr rfl
theorem vm_cond {o : Operand} {x y : Code} : vm c pl (.cond o x y) (fQ c pl R fs) e = joinB c pl R fs (opV e o) x y e (joinAt pl o) := by
 simp only [vm]
 cases joinAt pl o <;> rfl
theorem branch_true {x y : Code} : branchK c pl R fs (.lit (.bool true)) x y e = vm c pl x (fQ c pl R fs) e := by
 unfold branchK condK
 apply propext
 constructor
 ·rintro ⟨b, h1, h2, h3⟩
  cases h1
  exact h2 rfl
 ·exact fun h => ⟨true, rfl, fun _ => h, fun h => by cases h⟩
theorem branch_false {x y : Code} : branchK c pl R fs (.lit (.bool false)) x y e = vm c pl y (fQ c pl R fs) e := by
 unfold branchK condK
 apply propext
 constructor
 ·rintro ⟨b, h1, h2, h3⟩
  cases h1
  exact h3 rfl
 ·exact fun h => ⟨false, rfl, fun h => (by cases h), fun _ => h⟩
theorem branch_split {x y : Code} {b : Bool} (h1 : b = true -> vm c pl x (fQ c pl R fs) e) (h2 : b = false -> vm c pl y (fQ c pl R fs) e) : branchK c pl R fs (.lit (.bool b)) x y e := ⟨b, rfl, h1, h2⟩
theorem branch_dec {x y : Code} {p : Prop} [Decidable p] (h1 : p -> vm c pl x (fQ c pl R fs) e) (h2 : ¬ p -> vm c pl y (fQ c pl R fs) e) : branchK c pl R fs (.lit (.bool (decide p))) x y e :=
 ⟨_, rfl, fun h => h1 (of_decide_eq_true h), fun h => h2 (of_decide_eq_false h)⟩
theorem f_nil : fQ c pl R [] .normal e = R e := by simp only [fQ]
theorem f_nilr : fQ c pl R [] .ret e = R e := by simp only [fQ]
theorem f_code {x : Code} : fQ c pl R (.code x :: fs) .normal e = vm c pl x (fQ c pl R fs) e := by simp only [fQ]
theorem f_codex {x : Code} {id : Nat} : fQ c pl R (.code x :: fs) (.exit id) e = fQ c pl R fs (.exit id) e := by simp only [fQ]
theorem f_coder {x : Code} : fQ c pl R (.code x :: fs) .ret e = fQ c pl R fs .ret e := by simp only [fQ]
theorem f_end {id : Nat} : fQ c pl R (.endB id :: fs) .normal e = fQ c pl R fs .normal e := by simp only [fQ]
theorem f_endx {id id' : Nat} : fQ c pl R (.endB id :: fs) (.exit id') e = if id' = id then fQ c pl R fs .normal e else fQ c pl R fs (.exit id') e := by simp only [fQ]
theorem f_endr {id : Nat} : fQ c pl R (.endB id :: fs) .ret e = fQ c pl R fs .ret e := by simp only [fQ]
theorem f_again {α : Type} {F : α -> List (Nat × AVal)} {I : α -> Prop} {μ : α -> Nat} {n : Nat} : fQ c pl R (.again α F I μ n :: fs) .normal e = againK F I μ n e := by simp only [fQ]
theorem f_againx {α : Type} {F : α -> List (Nat × AVal)} {I : α -> Prop} {μ : α -> Nat} {n id : Nat} : fQ c pl R (.again α F I μ n :: fs) (.exit id) e = fQ c pl R fs (.exit id) e := by simp only [fQ]
theorem f_againr {α : Type} {F : α -> List (Nat × AVal)} {I : α -> Prop} {μ : α -> Nat} {n : Nat} : fQ c pl R (.again α F I μ n :: fs) .ret e = fQ c pl R fs .ret e := by simp only [fQ]
theorem f_stop {Q : Ex -> Env -> Prop} {x : Ex} : fQ c pl R (.stop Q :: fs) x e = Q x e := by cases x <;> simp only [fQ]
theorem next_eq : nextK c pl R fs e = fQ c pl R fs .normal (restrict c e) := nr rfl
open Classical in
theorem vm_loopW {x : Code} {α : Type} (F : α -> List (Nat × AVal)) (I : α -> Prop) (μ : α -> Nat) (p : α) (h0 : agrees e (F p)) (hI : I p)
  (h : ∀ q, I q -> VW c x (mkE (F q)) (fQ c pl R (.again α F I μ (μ q) :: fs))) : vm c pl (.loop x) (fQ c pl R fs) e := by
 simp only [vm]
 refine VW.weaken h0.le ?_
 have key : VW c (.loop x) (mkE (F p)) (fQ c pl R fs) := by
  intro w0 S0 o0 cargs a w S ow s hh
  refine wp_loop (I := fun a w => ∃ q, I q /\ Then c w0 S0 o0 cargs [] (fun e => e = mkE (F q)) a w) (μ := fun a w => if hx : ∃ n q, (I q /\ Then c w0 S0 o0 cargs [] (fun e => e = mkE (F q)) a w) /\ μ q = n then (least hx).choose else 0) ⟨p, hI, _, S, ow, rfl, s, hh⟩ ?_
  intro a w hx
  obtain ⟨q0, hq0⟩ := hx
  have hx : ∃ n q, (I q /\ Then c w0 S0 o0 cargs [] (fun e => e = mkE (F q)) a w) /\ μ q = n := ⟨_, q0, hq0, rfl⟩
  obtain ⟨h1, h2⟩ := (least hx).choose_spec
  obtain ⟨q, ⟨hq, e1, S1, o1, rfl, h5, h6⟩, h4⟩ := h1
  refine wp_mono (h q hq w0 S0 o0 cargs a w S1 o1 h5 h6) fun z a' w' hz => ?_
  cases z with
  | normal =>
   obtain ⟨e2, S2, o2, h7, h9, h10⟩ := hz
   rw [f_again] at h7
   obtain ⟨q2, i2, m2, g2⟩ := h7
   have ht : Then c w0 S0 o0 cargs [] (fun e => e = mkE (F q2)) a' w' := ⟨_, S2, o2, rfl, h9.weaken g2.le, h10⟩
   refine ⟨⟨q2, i2, ht⟩, ?_⟩
   have hx' : ∃ n q, (I q /\ Then c w0 S0 o0 cargs [] (fun e => e = mkE (F q)) a' w') /\ μ q = n := ⟨_, q2, ⟨i2, ht⟩, rfl⟩
   show (if hx : ∃ n q, (I q /\ Then c w0 S0 o0 cargs [] (fun e => e = mkE (F q)) a' w') /\ μ q = n then (least hx).choose else 0) < (if hx : ∃ n q, (I q /\ Then c w0 S0 o0 cargs [] (fun e => e = mkE (F q)) a w) /\ μ q = n then (least hx).choose else 0)
   rw [dif_pos hx', dif_pos hx]
   have := (least hx').choose_spec.2 _ ⟨q2, ⟨i2, ht⟩, rfl⟩
   rw [<- h4]
   omega
  | exit id =>
   obtain ⟨e2, S2, o2, h7, h9, h10⟩ := hz
   exact ⟨e2, S2, o2, by rwa [f_againx] at h7, h9, h10⟩
  | ret =>
   obtain ⟨e2, S2, o2, h7, h9, h10⟩ := hz
   exact ⟨e2, S2, o2, by rwa [f_againr] at h7, h9, h10⟩
  | goto l => exact hz.elim
  | panic ch => exact hz.elim
  | outgrown => exact hz.elim
 exact key
theorem again_intro {α : Type} {F : α -> List (Nat × AVal)} {I : α -> Prop} {μ : α -> Nat} {n : Nat} (q : α) (h1 : I q) (h2 : μ q < n) (h3 : agrees e (F q)) : againK F I μ n e := ⟨q, h1, h2, h3⟩
end
end Go.VS
/- VS: the rules of the machine, one for each kind of instruction. -/
set_option linter.unusedVariables false
set_option linter.unusedSimpArgs false
namespace Go.VS
def thenI (c : Ctx) (qt : Bool) (rid : Nat) (d : Option Tmp) (ss : List Ins) (K : Env -> Prop) (e : Env) : AVal -> Prop := fun v => regI c qt rid ss (putO c d v e) K
def thenE (c : Ctx) (qt : Bool) (rid : Nat) (d : Option Tmp) (ss : List Ins) (K : Env -> Prop) : AVal -> Env -> Prop := fun v e => regI c qt rid ss (putO c d v e) K
def thenB (c : Ctx) (qt : Bool) (rid : Nat) (d : Option Tmp) (ss : List Ins) (K : Env -> Prop) : AVal -> Env -> Prop := fun y e => isUndef y = false /\ regI c qt rid ss (putO c d (.ptr true y) e) K
def guardJ (v : AVal) (want : Bool) (c : Ctx) (qt : Bool) (rid : Nat) (d : Option Tmp) (op : Op) (ty : TypeId) (ss : List Ins) (e : Env) (K : Env -> Prop) : Prop :=
 match v with
 | .lit (.bool b) => (b = want -> regI c qt rid (⟨d, op, ty, none⟩ :: ss) e K) /\ (b = !want -> regI c qt rid ss (putO c d (.tup []) e) K)
 | .tup [] => regI c qt rid ss (putO c d (.tup []) e) K
 | _ => False
def fieldK (P : Program) (t : TypeId) (k : Nat) (f : Option (Nat × TypeId)) (x : Option (Nat × AVal)) (K : AVal -> Prop) : Prop :=
 match f with
 | some (fo, ft) => match x with
  | some (fo', z) => fo' = fo /\ 0 < z.w /\ z.w = P.cellsOf ft /\ aggT P ft = some (isAggA z) /\ K z
  | none => False
 | none => False
def indexK (ty : Option TypeDesc) (x i : AVal) (K : AVal -> Prop) : Prop :=
 match x, i, ty with
 | .lit (.string s), .lit (.int _ n), some .string => 0 <= n /\ n < s.size /\ K (.lit (.int .u8 (s.data.toList.getD n.toNat 0).toNat))
 | _, _, _ => False
def buildK (z : Option (List AVal)) (ps : List (Nat × AVal)) (K : AVal -> Prop) : Prop :=
 match z with
 | some zs => match setParts zs ps with
  | some xs => K (.agg xs)
  | none => False
 | none => False
def partsV (e : Env) : List (Nat × Operand) -> List (Nat × AVal)
 | [] => []
 | (k, x) :: l => (k, opV e x) :: partsV e l
theorem partsV_eq (e : Env) : ∀ l : List (Nat × Operand), partsV e l = l.map fun p => (p.1, opV e p.2)
 | [] => rfl
 | (k, x) :: l => by simp only [partsV, List.map_cons, partsV_eq e l]
def argsV (e : Env) : List Operand -> List AVal
 | [] => []
 | x :: l => opV e x :: argsV e l
theorem argsV_eq (e : Env) : ∀ l : List Operand, argsV e l = l.map (opV e)
 | [] => rfl
 | x :: l => by simp only [argsV, List.map_cons, argsV_eq e l]
def elsV (P : Program) (el : TypeId) (e : Env) : List (Nat × Operand) -> List AVal
 | [] => []
 | (_, x) :: l => fixNil P el (opV e x) :: elsV P el e l
theorem elsV_eq (P : Program) (el : TypeId) (e : Env) : ∀ l : List (Nat × Operand), elsV P el e l = l.map fun p => fixNil P el (opV e p.2)
 | [] => rfl
 | (k, x) :: l => by simp only [elsV, List.map_cons, elsV_eq P el e l]
def fstL : List (Nat × Operand) -> List Nat
 | [] => []
 | (k, _) :: l => k :: fstL l
theorem fstL_eq : ∀ l : List (Nat × Operand), fstL l = l.map (·.1)
 | [] => rfl
 | (k, x) :: l => by simp only [fstL, List.map_cons, fstL_eq l]
def allEls (n : Nat) : List AVal -> Prop
 | [] => True
 | y :: ys => (y.w = n /\ noRef y = true /\ stOk y = true) /\ allEls n ys
theorem allEls_eq (n : Nat) : ∀ ys : List AVal, allEls n ys -> ∀ y ∈ ys, y.w = n /\ noRef y = true /\ stOk y = true
 | [], _, y, hy => by cases hy
 | x :: xs, h, y, hy => by
  rcases List.mem_cons.1 hy with rfl | hy
  ·exact h.1
  ·exact allEls_eq n xs h.2 y hy
theorem allEls_of (n : Nat) : ∀ ys : List AVal, (∀ y ∈ ys, y.w = n /\ noRef y = true /\ stOk y = true) -> allEls n ys
 | [], _ => trivial
 | x :: xs, h => ⟨h x (by simp), allEls_of n xs fun y hy => h y (by simp [hy])⟩
def thenL (c : Ctx) (qt : Bool) (rid : Nat) (d : Option Tmp) (ss : List Ins) (K : Env -> Prop) (n : Nat) : List AVal -> Env -> Prop := fun ys e => allEls n ys /\ regI c qt rid ss (putO c d (.lst true n ys) e) K
def buildSliceK (P : Program) (el : TypeId) (len : Nat) (ks : List Nat) (mv : Option (List AVal × Env)) (K : List AVal -> Env -> Prop) : Prop :=
 ks = List.range len /\ 0 < P.cellsOf el /\ len * P.cellsOf el <= 2 ^ 24 /\ (zeroOf P el).isSome /\ (match mv with | some (ys, e1) => K ys e1 | none => False)
def makeSliceK (P : Program) (el : Option TypeId) (z : Option AVal) (n m : AVal) (K : AVal -> Prop) : Prop :=
 match el with
 | some el => match z, n, m with
  | some z, .lit (.int .i64 n), .lit (.int .i64 m) => 0 <= n /\ n <= m /\ fits P el m.toNat /\ 0 < z.w /\ K (.lst true (P.cellsOf el) (List.replicate n.toNat z))
  | _, _, _ => False
 | none => False
def loI (x : Option AVal) : Option Int := match x with
 | none => some 0
 | some (.lit (.int _ n)) => some n
 | _ => none
def hiI (x : Option AVal) (n : Nat) : Option Int := match x with
 | none => some n
 | some (.lit (.int _ n)) => some n
 | _ => none
def sliceK (P : Program) (ty : TypeId) (x : AVal) (lo hi : Option AVal) (K : AVal -> Prop) : Prop :=
 match x with
 | .lit (.string s) => match P.underlying ty with
  | some .string => match loI lo, hiI hi s.size with
   | some l, some h => 0 <= l /\ l <= h /\ h <= s.size /\ K (.lit (.string (s.extract l.toNat h.toNat)))
   | _, _ => False
  | _ => False
 | .lst false sz xs => match elemT P ty, loI lo, hiI hi xs.length with
  | some el, some l, some h => P.cellsOf el = sz /\ 0 < sz /\ 0 <= l /\ l <= h /\ h <= xs.length /\ K (.lst false sz ((xs.drop l.toNat).take (h.toNat - l.toNat)))
  | _, _, _ => False
 | .href loc sz lo0 n => match elemT P ty, loI lo, hiI hi n with
  | some el, some l, some h => P.cellsOf el = sz /\ 0 < sz /\ 0 <= l /\ l <= h /\ h <= n /\ (l < h -> K (.href loc sz (lo0 + l.toNat) (h.toNat - l.toNat))) /\ (l = h -> K (.lst false sz []))
  | _, _, _ => False
 | _ => False
def optV (e : Env) : Option Operand -> Option AVal
 | none => none
 | some x => some (opV e x)
def convertK (P : Program) (src dst : TypeId) (x : AVal) (els : Option (Nat × List AVal)) (K : AVal -> Prop) : Prop :=
 match x with
 | .lit (.int _ n) => match P.underlying src, P.underlying dst with
  | some _, some (.int k) => K (.lit (.int k (k.wrap n)))
  | _, _ => False
 | .lit (.string s) => match P.underlying src, P.underlying dst with
  | some .string, some .string => K (.lit (.string s))
  | some .string, some (.slice el) => match P.underlying el with
   | some (.int .u8) => P.cellsOf el = 1 /\ K (.lst true 1 (bytesA s))
   | _ => False
  | _, _ => False
 | x => match els, P.underlying src, P.underlying dst with
  | some (1, xs), some (.slice el), some .string => match P.underlying el, strOfA xs with
   | some (.int .u8), some bs => K (.lit (.string ⟨bs.toArray⟩))
   | _, _ => False
  | _, _, _ => False
def makeFuncK (f : FuncId) (caps : List AVal) (K : AVal -> Prop) : Prop := caps.all capOk = true /\ K (.fn f caps)
def appE (K : AVal -> Env -> Prop) (e : Env) : AVal -> Prop := fun y => K y e
theorem appE_eq {K : AVal -> Env -> Prop} {e : Env} {y : AVal} : appE K e y = K y e := nr rfl
def callN (g : Sys) (f : FuncId) (as : Option (List AVal)) (K : AVal -> Prop) : Prop :=
 ∃ (bs : List AVal) (Post : AVal -> AVal -> Prop), as = some bs /\ VCalls g f bs none Post /\ ∀ y x', Post y x' -> closedA y = true /\ K y
theorem callN.eq {g : Sys} {f : FuncId} {bs : List AVal} {v : AVal} {K : AVal -> Prop} (h : VCalls g f bs none (fun y _ => y = v)) (hc : closedA v = true) (hk : K v) : callN g f (some bs) K :=
 ⟨bs, _, rfl, h, fun y _ hy => by subst hy; exact ⟨hc, hk⟩⟩
theorem call_lend {c : Ctx} {qt : Bool} {f : FuncId} {bs : List AVal} {e : Env} {K : AVal -> Env -> Prop} (h : callN c.g f (snaps (fun _ => false) e bs) (appE K e)) : callK c qt f bs e K := by
 obtain ⟨as, Post, h1, h2, h3⟩ := h
 refine .inl ⟨true, none, as, Post, h2, ?_⟩
 simp only [Bool.not_true]
 exact .inl ⟨h1, fun y x' hp => ⟨fun _ => (h3 y x' hp).1, (h3 y x' hp).2⟩⟩
def callS (g : Sys) (f : FuncId) (as : Option (List AVal)) (K : AVal -> Prop) : Prop :=
 ∃ (bs : List AVal) (Post : AVal -> AVal -> Prop), as = some bs /\ VCalls g f bs none Post /\ ∀ y x', Post y x' -> K y
theorem callS.eq {g : Sys} {f : FuncId} {bs : List AVal} {v : AVal} {K : AVal -> Prop} (h : VCalls g f bs none (fun y _ => y = v)) (hk : K v) : callS g f (some bs) K :=
 ⟨bs, _, rfl, h, fun y _ hy => by subst hy; exact hk⟩
theorem call_share {c : Ctx} {qt : Bool} {f : FuncId} {bs : List AVal} {e : Env} {K : AVal -> Env -> Prop} (h : callS c.g f (snaps (fun _ => true) e bs) (appE K e)) : callK c qt f bs e K := by
 obtain ⟨as, Post, h1, h2, h3⟩ := h
 refine .inl ⟨false, none, as, Post, h2, ?_⟩
 simp only [Bool.not_false]
 exact .inl ⟨h1, fun y x' hp => ⟨fun hf => absurd hf (by simp), h3 y x' hp⟩⟩
section
variable {c : Ctx} {qt : Bool} {rid : Nat} {e : Env} {K : Env -> Prop} {d : Option Tmp} {ty : TypeId} {ss : List Ins} {op : Op} {v : AVal}
theorem thenI_eq : thenI c qt rid d ss K e v = regI c qt rid ss (putO c d v e) K := nr rfl
theorem thenE_eq : thenE c qt rid d ss K v e = regI c qt rid ss (putO c d v e) K := nr rfl
theorem thenB_eq : thenB c qt rid d ss K v e = (isUndef v = false /\ regI c qt rid ss (putO c d (.ptr true v) e) K) := nr rfl
theorem thenL_eq {n : Nat} {ys : List AVal} : thenL c qt rid d ss K n ys e = (allEls n ys /\ regI c qt rid ss (putO c d (.lst true n ys) e) K) := nr rfl
theorem r_guard {k : Nat} {want : Bool} : regI c qt rid (⟨d, op, ty, some (some k, want)⟩ :: ss) e K = guardJ (e k) want c qt rid d op ty ss e K := nr rfl
theorem r_guardn {want : Bool} : regI c qt rid (⟨d, op, ty, some (none, want)⟩ :: ss) e K = regI c qt rid ss (putO c d (.tup []) e) K := nr rfl
theorem gj_tt : guardJ (.lit (.bool true)) true c qt rid d op ty ss e K = regI c qt rid (⟨d, op, ty, none⟩ :: ss) e K := by simp [guardJ]
theorem gj_ff : guardJ (.lit (.bool false)) false c qt rid d op ty ss e K = regI c qt rid (⟨d, op, ty, none⟩ :: ss) e K := by simp [guardJ]
theorem gj_tf : guardJ (.lit (.bool true)) false c qt rid d op ty ss e K = regI c qt rid ss (putO c d (.tup []) e) K := by simp [guardJ]
theorem gj_ft : guardJ (.lit (.bool false)) true c qt rid d op ty ss e K = regI c qt rid ss (putO c d (.tup []) e) K := by simp [guardJ]
theorem gj_nil {want : Bool} : guardJ (.tup []) want c qt rid d op ty ss e K = regI c qt rid ss (putO c d (.tup []) e) K := nr rfl
theorem r_move {x : Operand} : regI c qt rid (⟨d, .move x, ty, none⟩ :: ss) e K = regI c qt rid ss (putO c d (opV e x) e) K := nr rfl
theorem r_assign {x : Operand} : regI c qt rid (⟨d, .assign x, ty, none⟩ :: ss) e K = moveK (c.mvr rid (tgt c d)) (fixNil c.g.P ty (opV e x)) e (thenE c qt rid d ss K) := nr rfl
theorem r_bin {bo : BinOp} {t t2 : TypeId} {x y : Operand} : regI c qt rid (⟨d, .binOp bo t x y t2, ty, none⟩ :: ss) e K = binK c.g.P bo t x y (opV e x) (opV e y) (thenI c qt rid d ss K e) := nr rfl
theorem r_un {uo : UnOp} {t : TypeId} {x : Operand} : regI c qt rid (⟨d, .unOp uo t x, ty, none⟩ :: ss) e K = unK (unA uo (opV e x)) (thenI c qt rid d ss K e) := nr rfl
theorem r_pick {x a b : Operand} : regI c qt rid (⟨d, .pick x a b, ty, none⟩ :: ss) e K = pickK (opV e x) (opV e a) (opV e b) (thenI c qt rid d ss K e) := nr rfl
def clrC (c : Ctx) (qt : Bool) (rid : Nat) (d : Option Tmp) (ss : List Ins) (K : Env -> Prop) : Env -> Prop := fun e => regI c qt rid ss (putO c d (.tup []) e) K
def ldN (c : Ctx) (qt : Bool) (rid : Nat) (d : Option Tmp) (x : Operand) (ss : List Ins) (K : Env -> Prop) (e : Env) (b : Bool) : AVal -> Prop := fun v => mvA (tgt c d) (opV e x) v e (thenE c qt rid d ss K) b
def ldC (c : Ctx) (qt : Bool) (rid : Nat) (d : Option Tmp) (t : TypeId) (x : Operand) (ss : List Ins) (K : Env -> Prop) : Env -> Prop := fun e => loadK c.g.P t (opV e x) e (ldN c qt rid d x ss K e (c.ml d))
theorem ldC_eq {t : TypeId} {x : Operand} : ldC c qt rid d t x ss K e = loadK c.g.P t (opV e x) e (ldN c qt rid d x ss K e (c.ml d)) := nr rfl
theorem ldN_ff {x : Operand} : ldN c qt rid d x ss K e false v = regI c qt rid ss (putO c d v e) K := nr rfl
theorem ldN_tt {x : Operand} : ldN c qt rid d x ss K e true v = moveK (mlR (tgt c d) (rootOf (opV e x))) v e (thenE c qt rid d ss K) := nr rfl
theorem ml_some {g : Sys} {nt d : Nat} {kp mu mv : List Nat} : Ctx.ml ⟨g, nt, kp, mu, mv⟩ (some d) = mv.contains (3000 + d) := nr rfl
theorem ml_none {g : Sys} {nt : Nat} {kp mu mv : List Nat} : Ctx.ml ⟨g, nt, kp, mu, mv⟩ none = false := nr rfl
theorem rootOf_adr {r i off : Nat} {p : List Step} {fs : List Nat} : rootOf (.adr ⟨r, p⟩ i fs off) = some r := nr rfl
theorem mlR_mk {t r k : Nat} : mlR t (some r) k = ((r == k) && (k != t)) := nr rfl
theorem r_load {t : TypeId} {x : Operand} : regI c qt rid (⟨d, .load t x, ty, none⟩ :: ss) e K = ldF (opV e x) e (ldC c qt rid d t x ss K) (c.fl d) := nr rfl
theorem ldF_ff {x : AVal} {K : Env -> Prop} : ldF x e K false = K e := nr rfl
theorem ldF_tt {r i off : Nat} {fs : List Nat} {K : Env -> Prop} : ldF (.adr ⟨r, []⟩ i fs off) e K true = ldB r e K (e r) := nr rfl
theorem ldB_ptr {r : Nat} {y : AVal} {K : Env -> Prop} : ldB r e K (.ptr true y) = (noRef y = true /\ K (frzB r y e)) := nr rfl
theorem fl_some {g : Sys} {nt d : Nat} {kp mu mv : List Nat} : Ctx.fl ⟨g, nt, kp, mu, mv⟩ (some d) = mv.contains (2000 + d) := nr rfl
theorem fl_none {g : Sys} {nt : Nat} {kp mu mv : List Nat} : Ctx.fl ⟨g, nt, kp, mu, mv⟩ none = false := nr rfl
theorem r_nilCheck {x : Operand} : regI c qt rid (⟨d, .nilCheck x, ty, none⟩ :: ss) e K = nilCheckK (opV e x) (thenI c qt rid d ss K e) := nr rfl
theorem r_fieldAddr {t : TypeId} {x : Operand} {k : Nat} : regI c qt rid (⟨d, .fieldAddr t x k, ty, none⟩ :: ss) e K = fieldAddrK (fieldT c.g.P t k) k (opV e x) (thenI c qt rid d ss K e) := nr rfl
theorem r_field {t : TypeId} {x : Operand} {k : Nat} : regI c qt rid (⟨d, .field t x k, ty, none⟩ :: ss) e K = fieldK c.g.P t k (fieldT c.g.P t k) (getF [k] (opV e x)) (thenI c qt rid d ss K e) := by
 simp only [regI, stepI, guardI, execK, Ins.oper, opK, fieldK, thenI]
 rfl
theorem r_indexAddr {t : TypeId} {x i : Operand} : regI c qt rid (⟨d, .indexAddr t x i, ty, none⟩ :: ss) e K = indexAddrK c.g.P (elemT c.g.P t) (opV e i) (opV e x) (thenI c qt rid d ss K e) := nr rfl
theorem r_index {t : TypeId} {x i : Operand} : regI c qt rid (⟨d, .index t x i, ty, none⟩ :: ss) e K = indexK (c.g.P.underlying t) (opV e x) (opV e i) (thenI c qt rid d ss K e) := nr rfl
theorem r_extract {s i : Nat} : regI c qt rid (⟨d, .extract (.tmp s) i, ty, none⟩ :: ss) e K = extractK (e s) s i (thenI c qt rid d ss K e) := nr rfl
theorem r_alloc {t : TypeId} : regI c qt rid (⟨d, .alloc t, ty, none⟩ :: ss) e K = allocK (zeroOf c.g.P t) (thenI c qt rid d ss K e) := nr rfl
theorem r_box {t : TypeId} {x : Operand} : regI c qt rid (⟨d, .box t x, ty, none⟩ :: ss) e K = moveK (c.mvr rid (tgt c d)) (fixNil c.g.P t (opV e x)) e (thenB c qt rid d ss K) := nr rfl
theorem r_build {t : TypeId} {ps : List (Nat × Operand)} : regI c qt rid (⟨d, .build t ps.toArray, ty, none⟩ :: ss) e K = buildK (structOf c.g.P t) (partsV e ps) (thenI c qt rid d ss K e) := by
 rw [partsV_eq]
 rfl
theorem r_buildSlice {t : TypeId} {n : Nat} {ps : List (Nat × Operand)} : regI c qt rid (⟨d, .buildSlice t n ps.toArray, ty, none⟩ :: ss) e K =
  match elemT c.g.P t with
  | some el => buildSliceK c.g.P el n (fstL ps) (moveVs (c.mvr rid (tgt c d)) (elsV c.g.P el e ps) e) (thenL c qt rid d ss K (c.g.P.cellsOf el))
  | none => False := by
 simp only [regI, stepI, guardI, execK, Ins.oper, opK]
 cases elemT c.g.P t with
 | none => rfl
 | some el =>
  simp only [buildSliceK, fstL_eq, elsV_eq, movesK, thenL]
  congr 4
  cases moveVs (c.mvr rid (tgt c d)) (List.map (fun p => fixNil c.g.P el (opV e p.2)) ps) e with
  | none => rfl
  | some p =>
   simp only
   apply propext
   exact ⟨fun h => ⟨allEls_of _ _ h.1, h.2⟩, fun h => ⟨allEls_eq _ _ h.1, h.2⟩⟩
theorem r_makeSlice {t : TypeId} {n m : Operand} : regI c qt rid (⟨d, .makeSlice t n m, ty, none⟩ :: ss) e K = match elemT c.g.P t with
  | some el => makeSliceK c.g.P (some el) (zeroOf c.g.P el) (opV e n) (opV e m) (thenI c qt rid d ss K e)
  | none => False := by
 simp only [regI, stepI, guardI, execK, Ins.oper, opK, makeSliceK, thenI]
 cases elemT c.g.P t <;> rfl
theorem r_slice {t : TypeId} {x : Operand} {lo hi : Option Operand} : regI c qt rid (⟨d, .slice t x lo hi none, ty, none⟩ :: ss) e K = sliceK c.g.P t (opV e x) (optV e lo) (optV e hi) (thenI c qt rid d ss K e) := by
 have h1 : opK.loOf e lo = loI (optV e lo) := by
  cases lo with
  | none => rfl
  | some x => simp only [opK.loOf, optV, loI]; cases opV e x with | lit v => cases v <;> rfl | _ => rfl
 have h2 : ∀ n, opK.hiOf e hi n = hiI (optV e hi) n := fun n => by
  cases hi with
  | none => rfl
  | some x => simp only [opK.hiOf, optV, hiI]; cases opV e x with | lit v => cases v <;> rfl | _ => rfl
 simp only [regI, stepI, guardI, execK, Ins.oper, opK, sliceK, thenI, h1, h2]
 rfl
theorem r_convert {s t : TypeId} {x : Operand} : regI c qt rid (⟨d, .convert s t x, ty, none⟩ :: ss) e K = convertK c.g.P s t (opV e x) (elems e (opV e x)) (thenI c qt rid d ss K e) := by
 simp only [regI, stepI, guardI, execK, Ins.oper, opK, convertK, thenI]
 cases opV e x with
 | lit v => cases v <;> rfl
 | _ => rfl
theorem r_makeFunc {f : FuncId} {ps : List Operand} : regI c qt rid (⟨d, .makeFunc (.func f) #[] ps.toArray, ty, none⟩ :: ss) e K = makeFuncK f (argsV e ps) (thenI c qt rid d ss K e) := by
 rw [argsV_eq]
 rfl
theorem r_len {x : Operand} {t : TypeId} : regI c qt rid (⟨d, .call { callee := .builtin .len, args := #[x], argTypes := #[t] }, ty, none⟩ :: ss) e K = lenK (c.g.P.underlying t) (opV e x) (esOf e (opV e x)) (thenI c qt rid d ss K e) := by
 rw [ri_plain, ex_len]
 rfl
theorem r_max {x y : Operand} {ts : Array TypeId} : regI c qt rid (⟨d, .call { callee := .builtin .max, args := #[x, y], argTypes := ts }, ty, none⟩ :: ss) e K = mmK true (thenI c qt rid d ss K e) (opV e x) (opV e y) := nr rfl
theorem r_min {x y : Operand} {ts : Array TypeId} : regI c qt rid (⟨d, .call { callee := .builtin .min, args := #[x, y], argTypes := ts }, ty, none⟩ :: ss) e K = mmK false (thenI c qt rid d ss K e) (opV e x) (opV e y) := nr rfl
theorem mmK_int {mx : Bool} {k k' : IntKind} {x y : Int} {K : AVal -> Prop} : mmK mx K (.lit (.int k x)) (.lit (.int k' y)) = (k' = k /\ K (.lit (.int k (mmV mx x y)))) := nr rfl
theorem mmV_max {x y : Int} : mmV true x y = if x < y then y else x := nr rfl
theorem mmV_min {x y : Int} : mmV false x y = if y < x then y else x := nr rfl
theorem r_makeMap {t : TypeId} : regI c qt rid (⟨d, .makeMap t none, ty, none⟩ :: ss) e K = regI c qt rid ss (putO c d (.mp true []) e) K := nr rfl
theorem r_lookup {t : TypeId} {x i : Operand} {ok : Bool} : regI c qt rid (⟨d, .lookup t x i ok, ty, none⟩ :: ss) e K = lookK c.g.P ok (thenI c qt rid d ss K e) (mapT c.g.P t) (esOf e (opV e x)) (opV e i) := nr rfl
theorem r_mapUpdate {t : TypeId} {x k v : Operand} : regI c qt rid (⟨none, .mapUpdate t x k v, ty, none⟩ :: ss) e K = (qt = false /\ mapUpK e (fun e1 => regI c qt rid ss e1 K) (mapT c.g.P t) (opV e x) (opV e k) (opV e v)) := by
 simp only [regI, stepI, guardI, execK, Ins.oper, true_and]
theorem esOf_mref {e : Env} {l : Loc} : esOf e (.mref l) = esQ (getE e l) := nr rfl
theorem esOf_mp {e : Env} {es : List (Value × Value)} : esOf e (.mp false es) = some es := nr rfl
theorem esQ_some {es : List (Value × Value)} : esQ (some (.mp true es)) = some es := nr rfl
theorem lookK_some {P : Program} {ok : Bool} {K : AVal -> Prop} {d : TypeDesc} {el : TypeId} {es : List (Value × Value)} {k : Value} : lookK P ok K (some (d, el)) (some es) (.lit k) = (keyB d k = true /\ (∀ p ∈ es, keyB d p.1 = true /\ litOk p.2) /\ lookZ ok K (mFind k es) (zeroOf P el)) := nr rfl
theorem lookZ_lit {ok : Bool} {K : AVal -> Prop} {m : Option Value} {z : Value} : lookZ ok K m (some (.lit z)) = K (lookV ok (m.getD z) m.isSome) := by
 cases m <;> rfl
theorem lookV_true {v : Value} {b : Bool} : lookV true v b = .tup [.lit v, .lit (.bool b)] := nr rfl
theorem lookV_false {v : Value} {b : Bool} : lookV false v b = .lit v := nr rfl
theorem mapUpK_some {e : Env} {K : Env -> Prop} {d : TypeDesc} {el : TypeId} {r : Nat} {k v : Value} : mapUpK e K (some (d, el)) (.mref ⟨r, []⟩) (.lit k) (.lit v) = mapUp d k v r e K (e r) := nr rfl
theorem mapUp_mp {e : Env} {K : Env -> Prop} {d : TypeDesc} {r : Nat} {k v : Value} {es : List (Value × Value)} : mapUp d k v r e K (.mp true es) = (keyB d k = true /\ (∀ p ∈ es, keyB d p.1 = true) /\ K (setS r (.mp true (mPut k v es)) e)) := nr rfl
theorem keyB_int {k : IntKind} {n : Int} : keyB (.int k) (.int k n) = true := by simp [keyB]
theorem keyB_str {s : ByteArray} : keyB .string (.string s) = true := nr rfl
theorem keyB_bool {b : Bool} : keyB .bool (.bool b) = true := nr rfl
theorem r_call {f : FuncId} {args : List Operand} {ts : Array TypeId} : regI c qt rid (⟨d, .call { callee := .value (.func f), args := args.toArray, argTypes := ts }, ty, none⟩ :: ss) e K = callK c qt f (argsV e args) e (thenE c qt rid d ss K) := by
 simp only [regI, stepI, guardI, execK, Ins.oper, calleeOf, List.append_nil, argsV_eq]
 rfl
def fnK (c : Ctx) (qt : Bool) (args : List AVal) (e : Env) (K : AVal -> Env -> Prop) : AVal -> Prop
 | .fn f caps => caps.all (fun x => !isAggA x) = true /\ callK c qt f (args ++ caps) e K
 | _ => False
theorem fnK_fn {args : List AVal} {K : AVal -> Env -> Prop} {f : FuncId} {caps : List AVal} : fnK c qt args e K (.fn f caps) = (caps.all (fun x => !isAggA x) = true /\ callK c qt f (args ++ caps) e K) := nr rfl
theorem r_callt {t : Nat} {args : List Operand} {ts : Array TypeId} : regI c qt rid (⟨d, .call { callee := .value (.tmp t), args := args.toArray, argTypes := ts }, ty, none⟩ :: ss) e K = fnK c qt (argsV e args) e (thenE c qt rid d ss K) (opV e (.tmp t)) := by
 simp only [regI, stepI, guardI, execK, Ins.oper, calleeOf, argsV_eq]
 cases opV e (.tmp t) with
 | fn f caps =>
  simp only [fnK]
  split
  ·rename_i f' caps' h
   split at h
   ·rename_i hc
    cases h
    apply propext
    exact ⟨fun h => ⟨hc, h⟩, fun h => h.2⟩
   ·cases h
  ·rename_i h
   split at h
   ·cases h
   ·rename_i hc
    apply propext
    exact ⟨fun h => h.elim, fun h => hc h.1⟩
 | _ => rfl
theorem r_store {t : TypeId} {x v : Operand} : regI c qt rid (⟨none, .store t x v, ty, none⟩ :: ss) e K = (qt = false /\ storeK c rid t x v e (fun e1 => regI c qt rid ss e1 K)) := by
 simp only [regI, stepI, guardI, execK, Ins.oper, true_and]
theorem r_clear {x : Operand} {t : TypeId} : regI c qt rid (⟨d, .call { callee := .builtin .clear, args := #[x], argTypes := #[t] }, ty, none⟩ :: ss) e K = (qt = false /\ clrT c.g.P (opV e x) e (clrC c qt rid d ss K) (elemT c.g.P t)) := nr rfl
theorem clrC_eq : clrC c qt rid d ss K e = regI c qt rid ss (putO c d (.tup []) e) K := nr rfl
theorem clrT_some {P : Program} {K : Env -> Prop} {el : TypeId} {r sz lo n : Nat} : clrT P (.href ⟨r, []⟩ sz lo n) e K (some el) = clrA (zeroOf P el) (P.cellsOf el) r sz lo n e K (e r) := nr rfl
theorem clrA_some {z : AVal} {r sz' sz sz2 lo n : Nat} {xs : List AVal} {K : Env -> Prop} : clrA (some z) sz' r sz lo n e K (.lst true sz2 xs) = (sz' = sz /\ sz2 = sz /\ lo + n <= xs.length /\ flatAs xs = true /\ flatA z = true /\ K (setS r (.lst true sz (xs.take lo ++ List.replicate n z ++ xs.drop (lo + n))) e)) := nr rfl
theorem r_copy {x y : Operand} {t t2 : TypeId} : regI c qt rid (⟨d, .call { callee := .builtin .copy, args := #[x, y], argTypes := #[t, t2] }, ty, none⟩ :: ss) e K = (qt = false /\ cpT c.g.P (opV e x) e (elems e (opV e y)) (thenE c qt rid d ss K) (elemT c.g.P t)) := nr rfl
theorem cpT_some {P : Program} {K : AVal -> Env -> Prop} {el : TypeId} {r sz lo n : Nat} {els : Option (Nat × List AVal)} : cpT P (.href ⟨r, []⟩ sz lo n) e els K (some el) = cpA (P.cellsOf el) r sz lo n e els K (e r) := nr rfl
theorem cpA_some {r sz' sz sz2 sz3 lo n : Nat} {xs ys : List AVal} {K : AVal -> Env -> Prop} : cpA sz' r sz lo n e (some (sz3, ys)) K (.lst true sz2 xs) = (sz' = sz /\ sz2 = sz /\ sz3 = sz /\ 0 < sz /\ ys.length <= n /\ n <= maxLen /\ lo + n <= xs.length /\ flatAs xs = true /\ flatAs ys = true /\ noRefs ys = true /\ K (.lit (.int .i64 ys.length)) (setS r (.lst true sz (xs.take lo ++ ys ++ xs.drop (lo + ys.length))) e)) := nr rfl
theorem r_append {x y : Operand} {t1 t2 : TypeId} : regI c qt rid (⟨d, .call { callee := .builtin .append, args := #[x, y], argTypes := #[t1, t2] }, ty, none⟩ :: ss) e K = (qt = false /\ appendK c (c.fz d) (tgt c d) #[x, y] #[t1, t2] e (thenE c qt rid d ss K)) := by
 simp only [regI, stepI, guardI, execK, Ins.oper]
 rfl
end
end Go.VS
/- VS: rules for stores, appends, moves, ends. -/
set_option linter.unusedVariables false
set_option linter.unusedSimpArgs false
namespace Go.VS
theorem getE_mk {e : Env} {r : Nat} {p : List Step} : getE e ⟨r, p⟩ = getP p (e r) := nr rfl
theorem loc_fld {r : Nat} {p : List Step} {k : Nat} : Loc.fld ⟨r, p⟩ k = ⟨r, p ++ [.fld k]⟩ := nr rfl
theorem loc_idx {r : Nat} {p : List Step} {k : Nat} : Loc.idx ⟨r, p⟩ k = ⟨r, p ++ [.idx k]⟩ := nr rfl
def fldsOf : List Nat -> List Step
 | [] => []
 | k :: ks => .fld k :: fldsOf ks
theorem fldsOf_eq : ∀ ks, fldsOf ks = ks.map .fld
 | [] => rfl
 | k :: ks => by simp only [fldsOf, List.map_cons, fldsOf_eq ks]
theorem loc_flds {r : Nat} {p : List Step} {fs : List Nat} : Loc.flds ⟨r, p⟩ fs = ⟨r, p ++ fldsOf fs⟩ := by rw [fldsOf_eq]; rfl
def nthL : List AVal -> Nat -> Option AVal
 | [], _ => none
 | x :: xs, n => if n = 0 then some x else nthL xs (n - 1)
theorem nthL_eq : ∀ (xs : List AVal) (n : Nat), nthL xs n = xs[n]?
 | [], n => rfl
 | x :: xs, 0 => rfl
 | x :: xs, n + 1 => by simp [nthL, nthL_eq xs n]
def getQ (p : List Step) : Option AVal -> Option AVal
 | some x => getP p x
 | none => none
theorem getQ_some {p : List Step} {x : AVal} : getQ p (some x) = getP p x := nr rfl
theorem getP_nil {x : AVal} : getP [] x = some x := by simp [getP]
theorem getP_agg {k : Nat} {p : List Step} {xs : List AVal} : getP (.fld k :: p) (.agg xs) = getQ p (nthL xs k) := by
 rw [nthL_eq]
 simp only [getP]
 cases xs[k]? <;> rfl
theorem getP_tup {k : Nat} {p : List Step} {xs : List AVal} : getP (.fld k :: p) (.tup xs) = getQ p (nthL xs k) := by
 rw [nthL_eq]
 simp only [getP]
 cases xs[k]? <;> rfl
theorem getP_ptr {p : List Step} {own : Bool} {x : AVal} : getP (.idx 0 :: p) (.ptr own x) = getP p x := by simp [getP]
theorem getP_lst {i : Nat} {p : List Step} {own : Bool} {sz : Nat} {xs : List AVal} : getP (.idx i :: p) (.lst own sz xs) = getQ p (xs[i]?) := by
 simp only [getP]
 cases xs[i]? <;> rfl
def setL : List AVal -> Nat -> (AVal -> AVal) -> List AVal
 | [], _, _ => []
 | x :: xs, n, f => if n = 0 then f x :: xs else x :: setL xs (n - 1) f
theorem setL_eq : ∀ (xs : List AVal) (n : Nat) (f : AVal -> AVal), setL xs n f = xs.modify n f
 | [], n, f => by simp [setL]
 | x :: xs, 0, f => by simp [setL]
 | x :: xs, n + 1, f => by simp [setL, setL_eq xs n f]
theorem setL_nil {n : Nat} {f : AVal -> AVal} : setL [] n f = [] := nr rfl
theorem setL_cons {x : AVal} {xs : List AVal} {n : Nat} {f : AVal -> AVal} : setL (x :: xs) n f = if n = 0 then f x :: xs else x :: setL xs (n - 1) f := nr rfl
theorem putP_nil {x y : AVal} : putP [] y x = y := by simp [putP]
theorem putP_agg {k : Nat} {p : List Step} {y : AVal} {xs : List AVal} : putP (.fld k :: p) y (.agg xs) = .agg (setL xs k (putP p y)) := by simp [putP, setL_eq]
theorem putP_tup {k : Nat} {p : List Step} {y : AVal} {xs : List AVal} : putP (.fld k :: p) y (.tup xs) = .tup (setL xs k (putP p y)) := by simp [putP, setL_eq]
theorem putP_ptr {p : List Step} {y x : AVal} {own : Bool} : putP (.idx 0 :: p) y (.ptr own x) = .ptr own (putP p y x) := by simp [putP]
theorem putP_lst {i : Nat} {p : List Step} {y : AVal} {own : Bool} {sz : Nat} {xs : List AVal} : putP (.idx i :: p) y (.lst own sz xs) = .lst own sz (xs.modify i (putP p y)) := by simp [putP]
def wsTake : List AVal -> Nat -> Nat
 | [], _ => 0
 | x :: xs, n => if n = 0 then 0 else x.w + wsTake xs (n - 1)
theorem wsTake_eq : ∀ (xs : List AVal) (n : Nat), wsTake xs n = AVal.ws (xs.take n)
 | [], n => by simp [wsTake, AVal.ws]
 | x :: xs, 0 => by simp [wsTake, AVal.ws]
 | x :: xs, n + 1 => by simp [wsTake, AVal.ws, wsTake_eq xs n]
def getFQ (o : Nat) (fs : List Nat) : Option AVal -> Option (Nat × AVal)
 | some x => match getF fs x with
  | some (o', y) => some (o + o', y)
  | none => none
 | none => none
def addF (o : Nat) : Option (Nat × AVal) -> Option (Nat × AVal)
 | some (o', y) => some (o + o', y)
 | none => none
theorem addF_some {o o' : Nat} {y : AVal} : addF o (some (o', y)) = some (o + o', y) := nr rfl
theorem getFQ_some {o : Nat} {fs : List Nat} {x : AVal} : getFQ o fs (some x) = addF o (getF fs x) := by
 simp only [getFQ]
 cases getF fs x <;> simp only [addF]
theorem getF_nil {x : AVal} : getF [] x = some (0, x) := by simp [getF]
theorem getF_agg {k : Nat} {fs : List Nat} {xs : List AVal} : getF (k :: fs) (.agg xs) = getFQ (wsTake xs k) fs (nthL xs k) := by
 rw [nthL_eq, wsTake_eq]
 simp only [getF, getFQ]
 cases xs[k]? <;> rfl
theorem putF_nil {x y : AVal} : putF [] y x = y := by simp [putF]
theorem putF_agg {k : Nat} {fs : List Nat} {y : AVal} {xs : List AVal} : putF (k :: fs) y (.agg xs) = .agg (setL xs k (putF fs y)) := by simp [putF, setL_eq]
theorem w_agg {xs : List AVal} : AVal.w (.agg xs) = AVal.ws xs := by simp only [AVal.w]
theorem w_lit {v : Value} : AVal.w (.lit v) = 1 := by simp only [AVal.w]
theorem w_lst {own : Bool} {sz : Nat} {xs : List AVal} : AVal.w (.lst own sz xs) = 1 := by simp only [AVal.w]
theorem w_href {l : Loc} {sz lo n : Nat} : AVal.w (.href l sz lo n) = 1 := by simp only [AVal.w]
theorem w_adr {l : Loc} {i : Nat} {fs : List Nat} {n : Nat} : AVal.w (.adr l i fs n) = 1 := by simp only [AVal.w]
theorem w_ptr {own : Bool} {x : AVal} : AVal.w (.ptr own x) = 1 := by simp only [AVal.w]
theorem w_fn {f : Nat} {xs : List AVal} : AVal.w (.fn f xs) = 1 := by simp only [AVal.w]
theorem w_undef : AVal.w .undef = 1 := by simp only [AVal.w]
theorem w_ifc : AVal.w .ifc = 1 := by simp only [AVal.w]
theorem ws_nil : AVal.ws [] = 0 := by simp only [AVal.ws]
theorem ws_cons {x : AVal} {xs : List AVal} : AVal.ws (x :: xs) = x.w + AVal.ws xs := by simp only [AVal.ws]
def elemAt (i sz : Nat) (fs : List Nat) (x : AVal) : Option (Nat × AVal) := addF (i * sz) (getF fs x)
theorem elemAt_eq {i sz : Nat} {fs : List Nat} {x : AVal} : elemAt i sz fs x = addF (i * sz) (getF fs x) := nr rfl
theorem nodeAt_ptr {fs : List Nat} {x : AVal} : nodeAt 0 fs (.ptr true x) = getF fs x := by simp [nodeAt]
theorem nodeAt_at {i : Nat} {fs : List Nat} {sz : Nat} {xs : List AVal} {x : AVal} (h : xs[i]? = some x) : nodeAt i fs (.lst true sz xs) = elemAt i sz fs x := by
 simp only [nodeAt, h, elemAt]
 cases getF fs x <;> rfl
theorem nodeAt_out {i : Nat} {fs : List Nat} {sz : Nat} {xs : List AVal} (h : xs[i]? = none) : nodeAt i fs (.lst true sz xs) = none := by simp only [nodeAt, h]
theorem nodeAt_map {α : Type} [Inhabited α] {f : α -> AVal} {i : Nat} {fs : List Nat} {sz : Nat} {xs : List α} {K : Option (Nat × AVal) -> Prop} (hK : K none = False) :
  K (nodeAt i fs (.lst true sz (xs.map f))) = (i < xs.length /\ K (elemAt i sz fs (f (xs.getD i default)))) := by
 by_cases h : i < xs.length
 ·have hx : (xs.map f)[i]? = some (f (xs.getD i default)) := by simp [h]
  rw [nodeAt_at hx]
  simp [h]
 ·have hx : (xs.map f)[i]? = none := by simp; omega
  rw [nodeAt_out hx, hK]
  simp [h]
theorem nodeAt_cons {i : Nat} {fs : List Nat} {sz : Nat} {x : AVal} {xs : List AVal} {K : Option (Nat × AVal) -> Prop} (hK : K none = False) :
  K (nodeAt i fs (.lst true sz (x :: xs))) = (i < (x :: xs).length /\ K (elemAt i sz fs ((x :: xs).getD i .undef))) := by
 by_cases h : i < (x :: xs).length
 ·have hx : (x :: xs)[i]? = some ((x :: xs).getD i .undef) := by simp [List.getD, List.getElem?_eq_getElem h]
  rw [nodeAt_at hx]
  exact propext ⟨fun k => ⟨h, k⟩, fun k => k.2⟩
 ·have hx : (x :: xs)[i]? = none := by simp at h ⊢; omega
  rw [nodeAt_out hx, hK]
  exact propext ⟨fun k => k.elim, fun k => h k.1⟩
def loadA (P : Program) (t : TypeId) (l : Loc) (i : Nat) (fs : List Nat) (off : Nat) (K : AVal -> Prop) : Option (Nat × AVal) -> Prop
 | some (off', y) => off' = off /\ y.w = P.cellsOf t /\ 0 < y.w /\ aggT P t = some (isAggA y) /\ K (copyOut ((l.idx i).flds fs) y)
 | none => False
def loadN (P : Program) (t : TypeId) (l : Loc) (i : Nat) (fs : List Nat) (off : Nat) (K : AVal -> Prop) : Option AVal -> Prop
 | some node => loadA P t l i fs off K (nodeAt i fs node)
 | none => False
section
variable {P : Program} {t : TypeId} {l : Loc} {i : Nat} {fs : List Nat} {off : Nat} {K : AVal -> Prop} {e : Env}
theorem load_ptr {y : AVal} : loadK P t (.ptr false y) e K = (y.w = P.cellsOf t /\ 0 < y.w /\ aggT P t = some (isAggA y) /\ K y) := nr rfl
theorem load_adr : loadK P t (.adr l i fs off) e K = loadN P t l i fs off K (getE e l) := by
 simp only [loadK, loadN]
 cases getE e l with
 | none => rfl
 | some node => simp only [loadA]; cases nodeAt i fs node <;> rfl
theorem loadN_some {node : AVal} : loadN P t l i fs off K (some node) = loadA P t l i fs off K (nodeAt i fs node) := nr rfl
theorem loadA_some {off' : Nat} {y : AVal} : loadA P t l i fs off K (some (off', y)) = (off' = off /\ y.w = P.cellsOf t /\ 0 < y.w /\ aggT P t = some (isAggA y) /\ K (copyOut ((l.idx i).flds fs) y)) := nr rfl
theorem loadA_map {α : Type} [Inhabited α] {f : α -> AVal} {sz : Nat} {xs : List α} : loadA P t l i fs off K (nodeAt i fs (.lst true sz (xs.map f))) = (i < xs.length /\ loadA P t l i fs off K (elemAt i sz fs (f (xs.getD i default)))) := nodeAt_map rfl
theorem loadA_cons {sz : Nat} {x : AVal} {xs : List AVal} : loadA P t l i fs off K (nodeAt i fs (.lst true sz (x :: xs))) = (i < (x :: xs).length /\ loadA P t l i fs off K (elemAt i sz fs ((x :: xs).getD i .undef))) := nodeAt_cons rfl
end
theorem putO_some {g : Sys} {nt d : Nat} {kp mu mv : List Nat} {x : AVal} {L : List (Nat × AVal)} : putO ⟨g, nt, kp, mu, mv⟩ (some d) x (mkE L) = if kp.contains d = true then mkE ((d, killP (killRoots d nt) x) :: mapE (killP (killRoots d nt)) (delE d L)) else mkE ((d, x) :: L) := by
 simp only [putO]
 split
 ·rename_i h
  exact putE_keep h x L
 ·rename_i h
  exact putE_fresh (c := ⟨g, nt, kp, mu, mv⟩) (by simpa using h) x L
theorem putO_none {g : Sys} {nt : Nat} {kp mu mv : List Nat} {x : AVal} {L : List (Nat × AVal)} : putO ⟨g, nt, kp, mu, mv⟩ none x (mkE L) = mkE (mapE (killP (killRoots nt nt)) L) := by
 simp only [putO]
 funext r
 rw [mkE_mapE _ rfl]
theorem tgt_some {g : Sys} {nt d : Nat} {kp mu mv : List Nat} : tgt ⟨g, nt, kp, mu, mv⟩ (some d) = if kp.contains d = true then nt else d := nr rfl
theorem tgt_none {g : Sys} {nt : Nat} {kp mu mv : List Nat} : tgt ⟨g, nt, kp, mu, mv⟩ none = nt := nr rfl
theorem restrict_mk {g : Sys} {nt : Nat} {kp mu mv : List Nat} {L : List (Nat × AVal)} : restrict ⟨g, nt, kp, mu, mv⟩ (mkE L) = mkE (onlyE kp (killP (notKept ⟨g, nt, kp, mu, mv⟩)) L) := restrict_eq _ L
theorem notKept_mk {g : Sys} {nt r : Nat} {kp mu mv : List Nat} {p : List Step} : notKept ⟨g, nt, kp, mu, mv⟩ ⟨r, p⟩ = !kp.contains r := nr rfl
theorem killRoots_mk {d n r : Nat} {p : List Step} : killRoots d n ⟨r, p⟩ = (r == d || r == n) := nr rfl
theorem below_mk {r r' : Nat} {p p' : List Step} : below ⟨r, p⟩ ⟨r', p'⟩ = (r' == r && fuzzy p p') := nr rfl
theorem near_mk {r r' : Nat} {p p' : List Step} : near ⟨r, p⟩ ⟨r', p'⟩ = (r == r' && (fuzzy p p' || fuzzy p' p)) := nr rfl
theorem mvr_mk {g : Sys} {nt t r rid : Nat} {kp mu mv : List Nat} : Ctx.mvr ⟨g, nt, kp, mu, mv⟩ rid t r = (r != t && (!kp.contains r || mv.contains rid)) := nr rfl
theorem retM_mk {g : Sys} {nt r : Nat} {kp mu mv : List Nat} : retM ⟨g, nt, kp, mu, mv⟩ r = (!(r == nt) && !mu.contains r) := nr rfl
theorem takeE_mk {r : Nat} {p : List Step} {L : List (Nat × AVal)} : takeE ⟨r, p⟩ (mkE L) = mkE ((r, putP p .undef (killP (below ⟨r, p⟩) (mkE L r))) :: mapE (killP (below ⟨r, p⟩)) (delE r L)) := by
 funext k
 simp only [takeE, mkE]
 split
 ·rename_i h
  rw [h]
 ·rename_i h
  rw [mkE_mapE _ rfl, mkE_delE r L k h]
theorem clr_mk {t : Nat} {L : List (Nat × AVal)} : clr t (mkE L) = mkE (mapE (killP (fun m => m.r == t)) (delE t L)) := by
 funext k
 simp only [clr]
 rw [mkE_mapE _ rfl]
 split
 ·rename_i h
  subst h
  have : ∀ L : List (Nat × AVal), mkE (delE k L) k = .undef := by
   intro L
   induction L with
   | nil => rfl
   | cons p L ih =>
    simp only [delE]
    split
    ·exact ih
    ·rename_i h
     simp only [mkE]
     rw [if_neg (fun h' => h h'.symm)]
     exact ih
  rw [this L]
  rfl
 ·rename_i h
  rw [mkE_delE t L k h]
def setN0 (l : Loc) (y : AVal) (e : Env) : Env := fun r => if r = l.r then putP l.p y (e r) else e r
theorem setN0_mk {r : Nat} {p : List Step} {y : AVal} {L : List (Nat × AVal)} : setN0 ⟨r, p⟩ y (mkE L) = mkE ((r, putP p y (mkE L r)) :: delE r L) := by
 funext k
 simp only [setN0, mkE]
 split
 ·rename_i h
  rw [h]
 ·rename_i h
  rw [mkE_delE r L k h]
def setN (l : Loc) (y : AVal) (K : Loc -> Bool) (e : Env) : Env := fun r => if r = l.r then putP l.p y (killP K (e r)) else killP K (e r)
theorem setS_mk {r : Nat} {x : AVal} {L : List (Nat × AVal)} : setS r x (mkE L) = mkE ((r, x) :: delE r L) := by
 funext k
 simp only [setS, mkE]
 split
 ·rfl
 ·rename_i h
  rw [mkE_delE r L k h]
theorem frzB_mk {r : Nat} {y : AVal} {L : List (Nat × AVal)} : frzB r y (mkE L) = mkE ((r, .ptr true (toShd y)) :: mapE (killP (below ⟨r, [.idx 0]⟩)) (delE r L)) := by
 funext k
 simp only [frzB, mkE]
 split
 ·rfl
 ·rename_i h
  rw [mkE_mapE _ rfl, mkE_delE r L k h]
theorem setN_mk {r : Nat} {p : List Step} {y : AVal} {K : Loc -> Bool} {L : List (Nat × AVal)} : setN ⟨r, p⟩ y K (mkE L) = mkE ((r, putP p y (killP K (mkE L r))) :: mapE (killP K) (delE r L)) := by
 funext k
 simp only [setN, mkE]
 split
 ·rename_i h
  rw [h]
 ·rename_i h
  rw [mkE_mapE _ rfl, mkE_delE r L k h]
def frzL (rs : List Nat) : List (Nat × AVal) -> List (Nat × AVal)
 | [] => []
 | (k, x) :: l => (k, if rs.contains k = true then toShd x else killP (fun m => rs.contains m.r) x) :: frzL rs l
theorem frzE_mk {rs : List Nat} {L : List (Nat × AVal)} : frzE rs (mkE L) = mkE (frzL rs L) := by
 funext r
 induction L with
 | nil => simp [frzE, frzL, mkE, killP, toShd]
 | cons p L ih =>
  obtain ⟨k, x⟩ := p
  simp only [frzE, frzL, mkE] at ih ⊢
  by_cases h : r = k
  ·subst h
   simp only [if_true]
  ·simp only [if_neg h]
   exact ih
def thenS (c : Ctx) (qt : Bool) (rid : Nat) (ss : List Ins) (K : Env -> Prop) : Env -> Prop := fun e => regI c qt rid ss e K
def stEnd (c : Ctx) (ty : TypeId) (l : Loc) (i : Nat) (fs : List Nat) (off : Nat) (y' : AVal) (e : Env) (K : Env -> Prop) (node2 : AVal) : Option (Nat × AVal) -> Prop
 | some (off2, y2) => off2 = off /\ y'.w = y2.w /\ y2.w = c.g.P.cellsOf ty /\ stOk y' = true /\ storeOk e l node2 y' /\ K (setN0 l (nodePut0 i fs y' node2) e)
 | none => False
def stEndN (c : Ctx) (ty : TypeId) (l : Loc) (i : Nat) (fs : List Nat) (off : Nat) (y' : AVal) (e : Env) (K : Env -> Prop) : Option AVal -> Prop
 | some node2 => stEnd c ty l i fs off y' e K node2 (nodeAt i fs node2)
 | none => False
def stMv (c : Ctx) (ty : TypeId) (l : Loc) (i : Nat) (fs : List Nat) (off : Nat) (K : Env -> Prop) : AVal -> Env -> Prop := fun y' e2 => stEndN c ty l i fs off y' e2 K (getE e2 l)
def stGo (c : Ctx) (rid : Nat) (ty : TypeId) (v : Operand) (l : Loc) (i : Nat) (fs : List Nat) (off : Nat) (node y : AVal) (e e1 : Env) (K : Env -> Prop) : Prop :=
 storeOk e l node (killP (below ((l.idx i).flds fs)) (blank y)) /\ moveK (c.mvr rid l.r) (fixNil c.g.P ty (opV e1 v)) e1 (stMv c ty l i fs off K)
def stVal (c : Ctx) (rid : Nat) (ty : TypeId) (v : Operand) (l : Loc) (i : Nat) (fs : List Nat) (off : Nat) (node y y' : AVal) (e : Env) (K : Env -> Prop) : Bool -> Prop
 | true => y'.w = y.w /\ stOk y' = true /\ storeOk e l node y' /\ K (setN0 l (nodePut0 i fs y' node) e)
 | false => stGo c rid ty v l i fs off node y e (setN l (nodePut i fs (killP (below ((l.idx i).flds fs)) (blank y)) (below ((l.idx i).flds fs)) node) (below ((l.idx i).flds fs)) e) K
def stAt (c : Ctx) (rid : Nat) (ty : TypeId) (v : Operand) (l : Loc) (i : Nat) (fs : List Nat) (off : Nat) (node y' : AVal) (e : Env) (K : Env -> Prop) : Option (Nat × AVal) -> Prop
 | some (off', y) => off' = off /\ y.w = c.g.P.cellsOf ty /\ 0 < y.w /\ stVal c rid ty v l i fs off node y y' e K (refsOk (c.mvr rid l.r) y')
 | none => False
def stN (c : Ctx) (rid : Nat) (ty : TypeId) (v : Operand) (l : Loc) (i : Nat) (fs : List Nat) (off : Nat) (e : Env) (K : Env -> Prop) : Option AVal -> Prop
 | some node => stAt c rid ty v l i fs off node (fixNil c.g.P ty (opV e v)) e K (nodeAt i fs node)
 | none => False
def stAdr (c : Ctx) (rid : Nat) (ty : TypeId) (v : Operand) (e : Env) (K : Env -> Prop) : AVal -> Prop
 | .adr l i fs off => stN c rid ty v l i fs off e K (getE e l)
 | _ => False
theorem moveK_and {p : Prop} {mvr : Nat -> Bool} {x : AVal} {e : Env} {K : AVal -> Env -> Prop} : moveK mvr x e (fun y e1 => p /\ K y e1) = (p /\ moveK mvr x e K) := by
 unfold moveK
 cases moveV mvr x e with
 | none => simp
 | some q => rfl
theorem stOk_fix2 (P : Program) (t : TypeId) (x : AVal) : stOk (fixNil P t x) = stOk x := by
 unfold fixNil
 split
 ·split <;> rfl
 ·rfl
theorem storeK_eq {c : Ctx} {rid : Nat} {ty : TypeId} {x v : Operand} {e : Env} {K : Env -> Prop} : storeK c rid ty x v e K = stAdr c rid ty v e K (opV e x) := by
 unfold storeK stAdr
 cases opV e x with
 | adr l i fs off =>
  simp only [stN]
  cases hg : getE e l with
  | none => rfl
  | some node =>
   simp only [stAt]
   cases hy : nodeAt i fs node with
   | none => rfl
   | some q =>
    obtain ⟨off', y⟩ := q
    simp only
    have hs : ∀ y', setAt0 l i fs y' e = setN0 l (nodePut0 i fs y' node) e := fun y' => by
     unfold setAt0 setN0
     rw [hg]
    have hs1 : setAt l i fs (killP (below ((l.idx i).flds fs)) (blank y)) (below ((l.idx i).flds fs)) e = setN l (nodePut i fs (killP (below ((l.idx i).flds fs)) (blank y)) (below ((l.idx i).flds fs)) node) (below ((l.idx i).flds fs)) e := by
     unfold setAt setN
     rw [hg]
    cases hr : refsOk (c.mvr rid l.r) (fixNil c.g.P ty (opV e v)) with
    | true => simp only [if_true, stVal, hs, stOk_fix2]
    | false =>
     simp only [Bool.false_eq_true, if_false, stVal, stGo, hs1, moveK_and]
     congr 4
     unfold moveK
     split
     ·rename_i y' e2 h2
      simp only [stMv, stEndN]
      cases hg2 : getE e2 l with
      | none => rfl
      | some node2 =>
       simp only [stEnd]
       cases hy2 : nodeAt i fs node2 with
       | none => rfl
       | some q2 =>
        obtain ⟨off2, y2⟩ := q2
        have hs2 : setAt0 l i fs y' e2 = setN0 l (nodePut0 i fs y' node2) e2 := by
         unfold setAt0 setN0
         rw [hg2]
        simp only [hs2]
     ·rfl
 | _ => rfl
theorem r_storeJ {c : Ctx} {qt : Bool} {rid : Nat} {e : Env} {K : Env -> Prop} {ty t : TypeId} {ss : List Ins} {x v : Operand} :
  regI c qt rid (⟨none, .store t x v, ty, none⟩ :: ss) e K = (qt = false /\ stAdr c rid t v e (thenS c qt rid ss K) (opV e x)) := by
 rw [r_store, storeK_eq]
 rfl
theorem thenS_eq {c : Ctx} {qt : Bool} {rid : Nat} {e : Env} {K : Env -> Prop} {ss : List Ins} : thenS c qt rid ss K e = regI c qt rid ss e K := nr rfl
section
variable {c : Ctx} {rid : Nat} {ty : TypeId} {v : Operand} {l : Loc} {i : Nat} {fs : List Nat} {off : Nat} {e e1 : Env} {K : Env -> Prop} {node y y' : AVal}
theorem stAdr_adr : stAdr c rid ty v e K (.adr l i fs off) = stN c rid ty v l i fs off e K (getE e l) := nr rfl
theorem stN_some : stN c rid ty v l i fs off e K (some node) = stAt c rid ty v l i fs off node (fixNil c.g.P ty (opV e v)) e K (nodeAt i fs node) := nr rfl
theorem stAt_some {off' : Nat} : stAt c rid ty v l i fs off node y' e K (some (off', y)) = (off' = off /\ y.w = c.g.P.cellsOf ty /\ 0 < y.w /\ stVal c rid ty v l i fs off node y y' e K (refsOk (c.mvr rid l.r) y')) := nr rfl
theorem stAt_map {α : Type} [Inhabited α] {f : α -> AVal} {sz : Nat} {xs : List α} : stAt c rid ty v l i fs off node y' e K (nodeAt i fs (.lst true sz (xs.map f))) = (i < xs.length /\ stAt c rid ty v l i fs off node y' e K (elemAt i sz fs (f (xs.getD i default)))) := nodeAt_map rfl
theorem stAt_cons {sz : Nat} {x : AVal} {xs : List AVal} : stAt c rid ty v l i fs off node y' e K (nodeAt i fs (.lst true sz (x :: xs))) = (i < (x :: xs).length /\ stAt c rid ty v l i fs off node y' e K (elemAt i sz fs ((x :: xs).getD i .undef))) := nodeAt_cons rfl
theorem stVal_true : stVal c rid ty v l i fs off node y y' e K true = (y'.w = y.w /\ stOk y' = true /\ storeOk e l node y' /\ K (setN0 l (nodePut0 i fs y' node) e)) := nr rfl
theorem stVal_false : stVal c rid ty v l i fs off node y y' e K false = stGo c rid ty v l i fs off node y e (setN l (nodePut i fs (killP (below ((l.idx i).flds fs)) (blank y)) (below ((l.idx i).flds fs)) node) (below ((l.idx i).flds fs)) e) K := nr rfl
theorem stGo_eq : stGo c rid ty v l i fs off node y e e1 K = (storeOk e l node (killP (below ((l.idx i).flds fs)) (blank y)) /\ moveK (c.mvr rid l.r) (fixNil c.g.P ty (opV e1 v)) e1 (stMv c ty l i fs off K)) := nr rfl
theorem stMv_eq : stMv c ty l i fs off K y' e = stEndN c ty l i fs off y' e K (getE e l) := nr rfl
theorem stEndN_some : stEndN c ty l i fs off y' e K (some node) = stEnd c ty l i fs off y' e K node (nodeAt i fs node) := nr rfl
theorem stEnd_some {off' : Nat} : stEnd c ty l i fs off y' e K node (some (off', y)) = (off' = off /\ y'.w = y.w /\ y.w = c.g.P.cellsOf ty /\ stOk y' = true /\ storeOk e l node y' /\ K (setN0 l (nodePut0 i fs y' node) e)) := nr rfl
theorem stEnd_map {α : Type} [Inhabited α] {f : α -> AVal} {sz : Nat} {xs : List α} : stEnd c ty l i fs off y' e K node (nodeAt i fs (.lst true sz (xs.map f))) = (i < xs.length /\ stEnd c ty l i fs off y' e K node (elemAt i sz fs (f (xs.getD i default)))) := nodeAt_map rfl
theorem storeOk_eq : storeOk e l node y = ((noRef y = true \/ isPtr node = true) /\ (viaLst l.p (e l.r) = false \/ (noRef y = true /\ noRef node = true))) := nr rfl
theorem nodePut0_lst {sz : Nat} {xs : List AVal} : nodePut0 i fs y (.lst true sz xs) = .lst true sz (xs.modify i (putF fs y)) := nr rfl
theorem nodePut0_ptr {x : AVal} : nodePut0 i fs y (.ptr true x) = .ptr true (putF fs y x) := nr rfl
theorem nodePut_lst {sz : Nat} {xs : List AVal} {D : Loc -> Bool} : nodePut i fs y D (.lst true sz xs) = .lst true sz (xs.modify i (putF fs y)) := nr rfl
theorem nodePut_ptr {x : AVal} {D : Loc -> Bool} : nodePut i fs y D (.ptr true x) = .ptr true (putF fs y (killP D x)) := nr rfl
theorem viaLst_nil {x : AVal} : viaLst [] x = false := by simp [viaLst]
theorem viaLst_ptr {p : List Step} {own : Bool} {x : AVal} : viaLst (.idx 0 :: p) (.ptr own x) = viaLst p x := by simp [viaLst]
theorem viaLst_lst {i : Nat} {p : List Step} {own : Bool} {sz : Nat} {xs : List AVal} : viaLst (.idx i :: p) (.lst own sz xs) = true := by simp [viaLst]
def viaQ (p : List Step) : Option AVal -> Bool
 | some x => viaLst p x
 | none => false
theorem viaQ_some {p : List Step} {x : AVal} : viaQ p (some x) = viaLst p x := nr rfl
theorem viaLst_agg {k : Nat} {p : List Step} {xs : List AVal} : viaLst (.fld k :: p) (.agg xs) = viaQ p (nthL xs k) := by
 rw [nthL_eq]
 simp only [viaLst, viaQ]
 cases xs[k]? <;> rfl
theorem modify_map {α : Type} {f : α -> AVal} {xs : List α} {v : α} : (xs.map f).modify i (putF [] (f v)) = (xs.set i v).map f := by
 have : putF [] (f v) = fun _ => f v := by funext x; simp [putF]
 rw [this]
 apply List.ext_getElem?
 intro j
 simp only [List.getElem?_modify, List.getElem?_map, List.getElem?_set]
 by_cases hj : i = j
 ·subst hj
  simp only [if_true]
  by_cases hl : i < xs.length
  ·simp [hl]
  ·simp [hl]
 ·simp [hj]
end
end Go.VS
/- VS: rules for moves, appends, ends of functions; what is known of all that lies in slots. -/
set_option linter.unusedVariables false
set_option linter.unusedSimpArgs false
namespace Go.VS
def aggC (K : AVal -> Env -> Prop) : List AVal -> Env -> Prop := fun ys e => K (.agg ys) e
def moveKs (mvr : Nat -> Bool) (xs done : List AVal) (e : Env) (K : List AVal -> Env -> Prop) : Prop := movesK mvr xs e fun ys e1 => K (done ++ ys) e1
def mvNext (mvr : Nat -> Bool) (xs done : List AVal) (K : List AVal -> Env -> Prop) : AVal -> Env -> Prop := fun y e => moveKs mvr xs (done ++ [y]) e K
def mvHref (l : Loc) (sz lo n : Nat) (e : Env) (K : AVal -> Env -> Prop) : Bool -> Option AVal -> Prop
 | true, some (.lst true sz' xs) => (sz' = sz /\ lo = 0 /\ n <= xs.length) /\ K (.lst true sz (xs.take n)) (takeE l e)
 | true, _ => False
 | false, _ => K (.href l sz lo n) e
def mvAdr (l : Loc) (i : Nat) (fs : List Nat) (off : Nat) (e : Env) (K : AVal -> Env -> Prop) : Bool -> Option AVal -> Prop
 | true, some (.ptr true x) => (i = 0 /\ fs = [] /\ off = 0 /\ noRef x = true) /\ K (.ptr true x) (takeE l e)
 | true, _ => False
 | false, _ => K (.adr l i fs off) e
section
variable {mvr : Nat -> Bool} {e : Env} {K : AVal -> Env -> Prop}
theorem mv_lit {v : Value} : moveK mvr (.lit v) e K = K (.lit v) e := by simp only [moveK, moveV]
theorem mv_undef : moveK mvr .undef e K = K .undef e := by simp only [moveK, moveV]
theorem mv_ifc : moveK mvr .ifc e K = K .ifc e := by simp only [moveK, moveV]
theorem mv_lst {own : Bool} {sz : Nat} {xs : List AVal} : moveK mvr (.lst own sz xs) e K = K (.lst own sz xs) e := by simp only [moveK, moveV]
theorem mv_ptr {x : AVal} : moveK mvr (.ptr false x) e K = K (.ptr false x) e := by simp only [moveK, moveV]
theorem mv_fn {f : Nat} {caps : List AVal} : moveK mvr (.fn f caps) e K = (refsOks mvr caps = true /\ K (.fn f caps) e) := by
 simp only [moveK, moveV]
 split
 ·rename_i h
  split at h
  ·rename_i hc
   cases h
   simp [hc]
  ·cases h
 ·rename_i h
  split at h
  ·cases h
  ·rename_i hc
   simp [hc]
theorem mv_href {l : Loc} {sz lo n : Nat} : moveK mvr (.href l sz lo n) e K = mvHref l sz lo n e K (mvr l.r) (getE e l) := by
 simp only [moveK, moveV]
 cases mvr l.r with
 | false => simp [mvHref]
 | true =>
  simp only [if_true]
  cases getE e l with
  | none => rfl
  | some y =>
   cases y with
   | lst own sz' xs =>
    cases own with
    | false => rfl
    | true =>
     simp only [mvHref]
     by_cases hc : sz' = sz /\ lo = 0 /\ n <= xs.length
     ·simp [hc]
     ·simp [hc]
   | _ => rfl
theorem mv_adr {l : Loc} {i : Nat} {fs : List Nat} {off : Nat} : moveK mvr (.adr l i fs off) e K = mvAdr l i fs off e K (mvr l.r) (getE e l) := by
 simp only [moveK, moveV]
 cases mvr l.r with
 | false => simp [mvAdr]
 | true =>
  simp only [if_true]
  cases getE e l with
  | none => rfl
  | some y =>
   cases y with
   | ptr own x =>
    cases own with
    | false => rfl
    | true =>
     simp only [mvAdr]
     by_cases hc : i = 0 /\ fs = [] /\ off = 0 /\ noRef x = true
     ·simp [hc]
     ·simp [hc]
   | _ => rfl
theorem mvHref_true {l : Loc} {sz lo n sz' : Nat} {xs : List AVal} : mvHref l sz lo n e K true (some (.lst true sz' xs)) = ((sz' = sz /\ lo = 0 /\ n <= xs.length) /\ K (.lst true sz (xs.take n)) (takeE l e)) := nr rfl
theorem mvHref_false {l : Loc} {sz lo n : Nat} {o : Option AVal} : mvHref l sz lo n e K false o = K (.href l sz lo n) e := nr rfl
theorem mvAdr_true {l : Loc} {i : Nat} {fs : List Nat} {off : Nat} {x : AVal} : mvAdr l i fs off e K true (some (.ptr true x)) = ((i = 0 /\ fs = [] /\ off = 0 /\ noRef x = true) /\ K (.ptr true x) (takeE l e)) := nr rfl
theorem mvAdr_false {l : Loc} {i : Nat} {fs : List Nat} {off : Nat} {o : Option AVal} : mvAdr l i fs off e K false o = K (.adr l i fs off) e := nr rfl
theorem mv_agg {xs : List AVal} : moveK mvr (.agg xs) e K = moveKs mvr xs [] e (aggC K) := by
 simp only [moveK, moveV, moveKs, movesK, aggC]
 cases moveVs mvr xs e <;> rfl
theorem aggC_eq {ys : List AVal} : aggC K ys e = K (.agg ys) e := nr rfl
theorem mvs_nil {done : List AVal} {K : List AVal -> Env -> Prop} : moveKs mvr [] done e K = K done e := by simp [moveKs, movesK, moveVs]
theorem mvs_cons {x : AVal} {xs done : List AVal} {K : List AVal -> Env -> Prop} : moveKs mvr (x :: xs) done e K = moveK mvr x e (mvNext mvr xs done K) := by
 simp only [moveKs, movesK, moveVs, moveK, mvNext]
 cases moveV mvr x e with
 | none => rfl
 | some q =>
  obtain ⟨y, e1⟩ := q
  simp only
  cases moveVs mvr xs e1 with
  | none => rfl
  | some q => simp
theorem mvNext_eq {y : AVal} {xs done : List AVal} {K : List AVal -> Env -> Prop} : mvNext mvr xs done K y e = moveKs mvr xs (done ++ [y]) e K := nr rfl
end
def appC (P : Program) (el ty2 : TypeId) (t : Nat) (so : Option Nat) (y : AVal) (els : Option (Nat × List AVal)) (K : AVal -> Env -> Prop) : Option (List AVal × Env) -> Prop
 | some (xs, e1) => 0 < P.cellsOf el /\ (zeroOf P el).isSome = true /\ match y with
  | .lit (.string s) => P.underlying ty2 = some .string /\ P.cellsOf el = 1 /\ fits P el (xs.length + (bytesA s).length) /\ K (.lst true (P.cellsOf el) (xs ++ bytesA s)) (clr t e1)
  | _ => match els with
   | some (sz, ys) => appP (flatAs ys) (sz = P.cellsOf el /\ (elemT P ty2).isSome = true /\ noRefs ys = true /\ fits P el (xs.length + ys.length) /\ K (.lst true (P.cellsOf el) (xs ++ ys)) (clr t e1)) (appMv P el ty2 t xs e1 K so)
   | none => False
 | none => False
def appT (P : Program) (ty2 : TypeId) (t : Nat) (so : Option Nat) (x y : AVal) (els : Option (Nat × List AVal)) (e : Env) (K : AVal -> Env -> Prop) : Option TypeId -> Prop
 | some el => appC P el ty2 t so y els K (appBase (P.cellsOf el) e x)
 | none => False
theorem appendN_eq {c : Ctx} {t : Nat} {x y : Operand} {t1 t2 : TypeId} {e : Env} {K : AVal -> Env -> Prop} : appendN c t #[x, y] #[t1, t2] e K = appT c.g.P t2 t (slotOf y) (opV e x) (opV e y) (elems e (opV e y)) e K (elemT c.g.P t1) := by
 simp only [appendN, List.getElem?_toArray, List.getElem?_cons_zero, List.getElem?_cons_succ]
 cases elemT c.g.P t1 with
 | none => rfl
 | some el =>
  simp only [appT]
  cases appBase (c.g.P.cellsOf el) e (opV e x) with
  | none => rfl
  | some q =>
   obtain ⟨xs, e1⟩ := q
   simp only [appC]
   congr 2
   cases opV e y with
   | lit v => cases v <;> rfl
   | _ => rfl
theorem slotOf_tmp {t : Nat} : slotOf (.tmp t) = some t := nr rfl
theorem appP_true {A B : Prop} : appP true A B = A := nr rfl
theorem appP_false {A B : Prop} : appP false A B = B := nr rfl
theorem appMv_some {P : Program} {el ty2 : TypeId} {t t2 : Nat} {xs : List AVal} {e1 : Env} {K : AVal -> Env -> Prop} : appMv P el ty2 t xs e1 K (some t2) = appMvA P el ty2 t t2 xs e1 K (e1 t2) := nr rfl
theorem appMvA_lst {P : Program} {el ty2 : TypeId} {t t2 sz : Nat} {xs ys : List AVal} {e1 : Env} {K : AVal -> Env -> Prop} : appMvA P el ty2 t t2 xs e1 K (.lst true sz ys) = ((t2 == t) = false /\ sz = P.cellsOf el /\ (elemT P ty2).isSome = true /\ noRefs ys = true /\ fits P el (xs.length + ys.length) /\ K (.lst true (P.cellsOf el) (xs ++ ys)) (clr t (clr t2 e1))) := nr rfl
theorem appendK_ff {c : Ctx} {t : Nat} {x y : Operand} {t1 t2 : TypeId} {e : Env} {K : AVal -> Env -> Prop} : appendK c false t #[x, y] #[t1, t2] e K = appT c.g.P t2 t (slotOf y) (opV e x) (opV e y) (elems e (opV e y)) e K (elemT c.g.P t1) := appendN_eq
theorem appendK_tt {c : Ctx} {t : Nat} {x y : Operand} {t1 t2 : TypeId} {e : Env} {K : AVal -> Env -> Prop} : appendK c true t #[x, y] #[t1, t2] e K = frzAppT c.g.P t2 e K (elems e (opV e y)) (opV e x) (elemT c.g.P t1) := nr rfl
theorem fz_some {g : Sys} {nt d : Nat} {kp mu mv : List Nat} : Ctx.fz ⟨g, nt, kp, mu, mv⟩ (some d) = mv.contains (1000 + d) := nr rfl
theorem fz_none {g : Sys} {nt : Nat} {kp mu mv : List Nat} : Ctx.fz ⟨g, nt, kp, mu, mv⟩ none = false := nr rfl
theorem frzAppT_some {P : Program} {el ty2 : TypeId} {e : Env} {K : AVal -> Env -> Prop} {els : Option (Nat × List AVal)} {x : AVal} : frzAppT P ty2 e K els x (some el) = frzAppB P el ty2 e K els x := nr rfl
theorem frzAppB_href {P : Program} {el ty2 : TypeId} {e : Env} {K : AVal -> Env -> Prop} {els : Option (Nat × List AVal)} {r sz lo n : Nat} : frzAppB P el ty2 e K els (.href ⟨r, []⟩ sz lo n) = frzApp P el ty2 e r sz lo n K (e r) els := nr rfl
theorem frzApp_some {P : Program} {el ty2 : TypeId} {e : Env} {K : AVal -> Env -> Prop} {r sz lo n sz2 sz3 : Nat} {xs ys : List AVal} : frzApp P el ty2 e r sz lo n K (.lst true sz2 xs) (some (sz3, ys)) = (sz = P.cellsOf el /\ sz2 = P.cellsOf el /\ sz3 = P.cellsOf el /\ lo = 0 /\ n = xs.length /\ flatAs xs = true /\ 0 < P.cellsOf el /\ (zeroOf P el).isSome = true /\ (elemT P ty2).isSome = true /\ flatAs ys = true /\ noRefs ys = true /\ fits P el (xs.length + ys.length) ∧
  K (.lst false (P.cellsOf el) (xs ++ ys)) (frzE [r] e)) := nr rfl
section
variable {P : Program} {el ty2 : TypeId} {t : Nat} {e e1 : Env} {K : AVal -> Env -> Prop} {x y : AVal} {xs : List AVal}
theorem appT_some {so : Option Nat} {els : Option (Nat × List AVal)} : appT P ty2 t so x y els e K (some el) = appC P el ty2 t so y els K (appBase (P.cellsOf el) e x) := nr rfl
theorem appC_str {so : Option Nat} {s : ByteArray} {els : Option (Nat × List AVal)} : appC P el ty2 t so (.lit (.string s)) els K (some (xs, e1)) = (0 < P.cellsOf el /\ (zeroOf P el).isSome = true /\ P.underlying ty2 = some .string /\ P.cellsOf el = 1 /\ fits P el (xs.length + (bytesA s).length) /\ K (.lst true (P.cellsOf el) (xs ++ bytesA s)) (clr t e1)) := nr rfl
theorem appC_lst {so : Option Nat} {own : Bool} {sz sz' : Nat} {zs ys : List AVal} : appC P el ty2 t so (.lst own sz' zs) (some (sz, ys)) K (some (xs, e1)) = (0 < P.cellsOf el /\ (zeroOf P el).isSome = true /\ appP (flatAs ys) (sz = P.cellsOf el /\ (elemT P ty2).isSome = true /\ noRefs ys = true /\ fits P el (xs.length + ys.length) /\ K (.lst true (P.cellsOf el) (xs ++ ys)) (clr t e1)) (appMv P el ty2 t xs e1 K so)) := nr rfl
theorem appC_href {so : Option Nat} {l : Loc} {sz' lo n sz : Nat} {ys : List AVal} : appC P el ty2 t so (.href l sz' lo n) (some (sz, ys)) K (some (xs, e1)) = (0 < P.cellsOf el /\ (zeroOf P el).isSome = true /\ appP (flatAs ys) (sz = P.cellsOf el /\ (elemT P ty2).isSome = true /\ noRefs ys = true /\ fits P el (xs.length + ys.length) /\ K (.lst true (P.cellsOf el) (xs ++ ys)) (clr t e1)) (appMv P el ty2 t xs e1 K so)) := nr rfl
def appH (sz sz' lo n : Nat) (e1 : Env) : Option AVal -> Option (List AVal × Env)
 | some (.lst true sz2 xs) => if sz' = sz /\ sz2 = sz /\ lo = 0 /\ n = xs.length then some (xs, e1) else none
 | _ => none
theorem appBase_nil {sz : Nat} : appBase sz e (.lit (.slice none 0 0)) = some ([], e) := nr rfl
theorem appBase_href {l : Loc} {sz sz' lo n : Nat} : appBase sz e (.href l sz' lo n) = appH sz sz' lo n (takeE l e) (getE e l) := by
 simp only [appBase]
 cases getE e l with
 | none => rfl
 | some y =>
  cases y with
  | lst own sz2 xs => cases own <;> rfl
  | _ => rfl
theorem appH_some {sz sz' lo n sz2 : Nat} : appH sz sz' lo n e1 (some (.lst true sz2 xs)) = if sz' = sz /\ sz2 = sz /\ lo = 0 /\ n = xs.length then some (xs, e1) else none := nr rfl
end
def elsQ (sz lo n : Nat) : Option AVal -> Option (Nat × List AVal)
 | some (.lst true sz' xs) => if sz' = sz /\ lo + n <= xs.length then some (sz, (xs.drop lo).take n) else none
 | _ => none
theorem elems_lst {e : Env} {own : Bool} {sz : Nat} {xs : List AVal} : elems e (.lst own sz xs) = some (sz, xs) := nr rfl
theorem elems_lit {e : Env} {v : Value} : elems e (.lit v) = none := nr rfl
theorem elems_href {e : Env} {l : Loc} {sz lo n : Nat} : elems e (.href l sz lo n) = elsQ sz lo n (getE e l) := by
 simp only [elems]
 cases getE e l with
 | none => rfl
 | some y =>
  cases y with
  | lst own sz2 xs => cases own <;> rfl
  | _ => rfl
theorem elsQ_some {sz lo n sz' : Nat} {xs : List AVal} : elsQ sz lo n (some (.lst true sz' xs)) = if sz' = sz /\ lo + n <= xs.length then some (sz, (xs.drop lo).take n) else none := nr rfl
def endC (m : Option Nat) (Post : AVal -> AVal -> Prop) : AVal -> Env -> Prop := fun y e => endK m Post y e
def endT (m : Option Nat) (Post : AVal -> AVal -> Prop) : List AVal -> Env -> Prop := fun ys e => endK m Post (.tup ys) e
def endP (Post : AVal -> AVal -> Prop) (y : AVal) : AVal -> Prop
 | .ptr true x' => noRef x' = true /\ Post y x'
 | _ => False
theorem endC_none {Post : AVal -> AVal -> Prop} {y : AVal} {e : Env} : endC none Post y e = (noRef y = true /\ Post y .undef) := nr rfl
theorem endT_none {Post : AVal -> AVal -> Prop} {ys : List AVal} {e : Env} : endT none Post ys e = (noRefs ys = true /\ Post (.tup ys) .undef) := by simp [endT, endK, noRef]
theorem endK_some {i : Nat} {Post : AVal -> AVal -> Prop} {y : AVal} {e : Env} : endK (some i) Post y e = (noRef y = true /\ endP Post y (e i)) := by
 simp only [endK]
 congr 1
 apply propext
 constructor
 ·rintro ⟨x', h1, h2, h3⟩
  rw [h1]
  exact ⟨h2, h3⟩
 ·intro h
  unfold endP at h
  split at h
  ·rename_i x' hx
   exact ⟨x', hx, h.1, h.2⟩
  ·exact h.elim
theorem endC_some {i : Nat} {Post : AVal -> AVal -> Prop} {y : AVal} {e : Env} : endC (some i) Post y e = (noRef y = true /\ endP Post y (e i)) := endK_some
theorem endT_some {i : Nat} {Post : AVal -> AVal -> Prop} {ys : List AVal} {e : Env} : endT (some i) Post ys e = (noRef (.tup ys) = true /\ endP Post (.tup ys) (e i)) := endK_some
theorem endP_ptr {Post : AVal -> AVal -> Prop} {y x : AVal} : endP Post y (.ptr true x) = (noRef x = true /\ Post y x) := nr rfl
def retJ (c : Ctx) (m : Option Nat) (Post : AVal -> AVal -> Prop) (e : Env) : Option (List AVal) -> Prop
 | none => False
 | some [x] => moveK (retM c) x e (endC m Post)
 | some xs => xs.all stOk = true /\ moveKs (retM c) xs [] e (endT m Post)
theorem retK_eq {c : Ctx} {rs : List ResultVar} {m : Option Nat} {Post : AVal -> AVal -> Prop} {e : Env} : retK c rs.toArray m Post e = retJ c m Post e (retVs c.g.P e rs) := by
 simp only [retK]
 cases retVs c.g.P e rs with
 | none => rfl
 | some xs =>
  match xs with
  | [] => simp [retJ, moveKs, endT]
  | [x] => rfl
  | x :: y :: zs => simp [retJ, moveKs, endT]
theorem retJ_one {c : Ctx} {m : Option Nat} {Post : AVal -> AVal -> Prop} {e : Env} {x : AVal} : retJ c m Post e (some [x]) = moveK (retM c) x e (endC m Post) := nr rfl
theorem retJ_nil {c : Ctx} {m : Option Nat} {Post : AVal -> AVal -> Prop} {e : Env} : retJ c m Post e (some []) = endT m Post [] e := by simp [retJ, moveKs, movesK, moveVs]
theorem retJ_two {c : Ctx} {m : Option Nat} {Post : AVal -> AVal -> Prop} {e : Env} {x y : AVal} {zs : List AVal} : retJ c m Post e (some (x :: y :: zs)) = ((x :: y :: zs).all stOk = true /\ moveKs (retM c) (x :: y :: zs) [] e (endT m Post)) := nr rfl
def consO : Option AVal -> Option (List AVal) -> Option (List AVal)
 | some x, some xs => some (x :: xs)
 | _, _ => none
theorem consO_some {x : AVal} {xs : List AVal} : consO (some x) (some xs) = some (x :: xs) := nr rfl
theorem retVs_nil {P : Program} {e : Env} : retVs P e [] = some [] := nr rfl
theorem retVs_cons {P : Program} {e : Env} {r : ResultVar} {rs : List ResultVar} : retVs P e (r :: rs) = consO (retV P e r) (retVs P e rs) := by
 simp only [retVs, consO]
 cases retV P e r <;> cases retVs P e rs <;> rfl
theorem retV_tmp {P : Program} {e : Env} {t : Nat} : retV P e (.tmp t) = some (opV e (.tmp t)) := nr rfl
def retA (P : Program) (ty : TypeId) (l : Loc) (i : Nat) (fs : List Nat) (off : Nat) : Option (Nat × AVal) -> Option AVal
 | some (off', y) => if off' = off /\ y.w = P.cellsOf ty /\ 0 < y.w /\ aggT P ty = some (isAggA y) then some (copyOut ((l.idx i).flds fs) y) else none
 | none => none
def retN (P : Program) (ty : TypeId) (l : Loc) (i : Nat) (fs : List Nat) (off : Nat) : Option AVal -> Option AVal
 | some node => retA P ty l i fs off (nodeAt i fs node)
 | none => none
def retCell (P : Program) (ty : TypeId) (e : Env) : AVal -> Option AVal
 | .adr l i fs off => retN P ty l i fs off (getE e l)
 | _ => none
theorem retV_cell {P : Program} {e : Env} {t : Nat} {ty : TypeId} : retV P e (.cell t ty) = retCell P ty e (opV e (.tmp t)) := by
 simp only [retV, retCell]
 cases opV e (.tmp t) with
 | adr l i fs off =>
  simp only [retN]
  cases getE e l with
  | none => rfl
  | some node => simp only [retA]; cases nodeAt i fs node <;> rfl
 | _ => rfl
theorem retCell_adr {P : Program} {ty : TypeId} {e : Env} {l : Loc} {i : Nat} {fs : List Nat} {off : Nat} : retCell P ty e (.adr l i fs off) = retN P ty l i fs off (getE e l) := nr rfl
theorem retN_some {P : Program} {ty : TypeId} {l : Loc} {i : Nat} {fs : List Nat} {off : Nat} {node : AVal} : retN P ty l i fs off (some node) = retA P ty l i fs off (nodeAt i fs node) := nr rfl
theorem retA_some {P : Program} {ty : TypeId} {l : Loc} {i : Nat} {fs : List Nat} {off off' : Nat} {y : AVal} : retA P ty l i fs off (some (off', y)) = if off' = off /\ y.w = P.cellsOf ty /\ 0 < y.w /\ aggT P ty = some (isAggA y) then some (copyOut ((l.idx i).flds fs) y) else none := nr rfl
mutual
def okA : AVal -> Prop
 | .lit v => litOk v
 | .agg xs => okAs xs
 | .tup xs => okAs xs
 | .lst _ _ xs => xs.length <= maxLen /\ okAs xs
 | .ptr _ x => okA x
 | .fn _ caps => okAs caps
 | _ => True
def okAs : List AVal -> Prop
 | [] => True
 | x :: xs => okA x /\ okAs xs
end
theorem okAs_all : ∀ {xs : List AVal}, okAs xs ↔ ∀ x ∈ xs, okA x
 | [] => by simp [okAs]
 | x :: xs => by simp [okAs, okAs_all (xs := xs)]
theorem okAs_get {xs : List AVal} (h : ∀ (i : Nat) (x : AVal), xs[i]? = some x -> okA x) : okAs xs := by
 rw [okAs_all]
 intro x hx
 obtain ⟨i, hi⟩ := List.mem_iff_getElem?.1 hx
 exact h i x hi
theorem okAs_map {α : Type} {f : α -> AVal} {xs : List α} : okAs (xs.map f) = ∀ x ∈ xs, okA (f x) := by
 apply propext
 rw [okAs_all]
 simp
theorem RepS.okA {h : Array Obj} {S : Nat -> Prop} {cs : List Value} {x : AVal} (r : RepS h S cs x) : VS.okA x := by
 induction r with
 | undef a => simp [VS.okA]
 | lit a => simpa [VS.okA] using a
 | ifc => simp [VS.okA]
 | agg a _ ih =>
  simp only [VS.okA]
  refine okAs_get fun i x hx => ?_
  have hi := (List.getElem?_eq_some_iff.1 hx).1
  rw [<- a] at hi
  exact ih i _ x (List.getElem?_eq_getElem hi) hx
 | emp a => simp [VS.okA, okAs]
 | lst a b d e f _ ih => simp only [VS.okA]; exact ⟨by omega, okAs_get fun i x hx => ih i x hx⟩
 | ptr a b d _ ih => simpa only [VS.okA] using ih
 | mp a b => simp [VS.okA]
 | mpNil => simp [VS.okA]
 | fn a _ ih =>
  simp only [VS.okA]
  refine okAs_get fun i x hx => ?_
  have hi := (List.getElem?_eq_some_iff.1 hx).1
  rw [<- a] at hi
  exact ih i _ x (Array.getElem?_eq_getElem hi) hx
theorem Rep.okA {h : Array Obj} {S : Nat -> Prop} {o : Own} {l : Loc} {cs : List Value} {x : AVal} (r : Rep h S o l cs x) : VS.okA x := by
 induction r with
 | shd a => exact a.okA
 | agg a _ ih =>
  simp only [VS.okA]
  refine okAs_get fun i x hx => ?_
  have hi := (List.getElem?_eq_some_iff.1 hx).1
  rw [<- a] at hi
  exact ih i _ x (List.getElem?_eq_getElem hi) hx
 | nil => simp [VS.okA, okAs]
 | lst a b d e f g k _ ih => simp only [VS.okA]; exact ⟨by omega, okAs_get fun i x hx => ih i x hx⟩
 | ptr a b d _ ih => simpa only [VS.okA] using ih
 | mp a b => simp [VS.okA]
 | fn a _ ih =>
  simp only [VS.okA]
  refine okAs_get fun i x hx => ?_
  have hi := (List.getElem?_eq_some_iff.1 hx).1
  rw [<- a] at hi
  exact ih i _ x (Array.getElem?_eq_getElem hi) hx
 | hrefN => simp [VS.okA]
 | href a b d e f g => simp [VS.okA]
 | adr a b => simp [VS.okA]
 | mref a b => simp [VS.okA]
theorem RepV.okA {h : Array Obj} {S : Nat -> Prop} {o : Own} {l : Loc} {v : Value} {x : AVal} (r : RepV h S o l v x) : VS.okA x := by
 rcases r with (rfl | ⟨r, _⟩) | ⟨vs, xs, rfl, rfl, hs, hv⟩
 ·simp [VS.okA]
 ·exact r.okA
 ·simp only [VS.okA]
  refine okAs_get fun i x hx => ?_
  have hi := (List.getElem?_eq_some_iff.1 hx).1
  rw [<- hs] at hi
  rcases hv i _ x (Array.getElem?_eq_getElem hi) hx with rfl | ⟨r, _⟩
  ·simp [VS.okA]
  ·exact r.okA
def okL : List (Nat × AVal) -> Prop
 | [] => True
 | (_, x) :: l => okA x /\ okL l
theorem okA_env {c : Ctx} {w0 : World} {S0 : Nat -> Prop} {o0 : Own} {cargs : Array Value} {e : Env} {a : Act} {w : World} {S : Nat -> Prop} {o : Own} (s : St c w0 S0 o0 cargs e a w S o) (r : Nat) : okA (e r) := (s.env r).okA
theorem VW.known {c : Ctx} {x : Code} {e : Env} {Q : Ex -> Env -> Prop} (h : (∀ r, okA (e r)) -> VW c x e Q) : VW c x e Q := fun w0 S0 o0 cargs a w S ow s hh => h (okA_env s) w0 S0 o0 cargs a w S ow s hh
theorem VCalls.known {g : Sys} {f : FuncId} {as : List AVal} {m : Option Nat} {Post : AVal -> AVal -> Prop} (h : VCalls g f as m Post) (hm : ∀ i, m = some i -> i < as.length) : VCalls g f as m fun y x' => Post y x' /\ okA y /\ (m.isSome = true -> okA x') := by
 intro w S o args h1 h2 h3 h4
 refine (h w S o args h1 h2 h3 h4).mono ?_
 rintro v w' ⟨y, x', S', o', a1, a2, a3, a4, a5, a6, a7⟩
 refine ⟨y, x', S', o', ⟨a1, a5.okA, fun hs => ?_⟩, a2, a3, a4, a5, a6, a7⟩
 obtain ⟨i, hi⟩ := Option.isSome_iff_exists.1 hs
 have hl := hm i hi
 rw [<- h1] at hl
 have := (a7 i _ hi (Array.getElem?_eq_getElem hl)).1.okA
 simpa only [okA] using this
def keysOk : List (Nat × AVal) -> Bool
 | [] => true
 | (k, _) :: l => !(l.any fun p => p.1 == k) && keysOk l
theorem okL_of : ∀ {l : List (Nat × AVal)}, keysOk l = true -> (∀ r, okA (mkE l r)) -> okL l
 | [], _, _ => trivial
 | (k, x) :: l, hk, h => by
  simp only [keysOk, Bool.and_eq_true, Bool.not_eq_true', List.any_eq_false] at hk
  refine ⟨by simpa [mkE] using h k, okL_of hk.2 fun r => ?_⟩
  by_cases hr : r = k
  ·subst hr
   have : mkE l r = .undef := by
    have := hk.1
    clear hk h
    induction l with
    | nil => rfl
    | cons p l ih =>
     obtain ⟨j, y⟩ := p
     simp only [mkE]
     rw [if_neg (fun h => by
      have := this (j, y) (by simp)
      simp [h] at this)]
     exact ih fun q hq => this q (by simp [hq])
   rw [this]
   simp [okA]
  ·have := h r
   simpa only [mkE, if_neg hr] using this
theorem vm_loopK {c : Ctx} {pl : Draws} {R : Env -> Prop} {fs : List Frame} {e : Env} {x : Code} {α : Type} (F : α -> List (Nat × AVal)) (I : α -> Prop) (μ : α -> Nat) (p : α) (h0 : agrees e (F p)) (hI : I p) (hk : okCode c pl x = true) (hn : ∀ q, keysOk (F q) = true)
  (h : ∀ q, I q -> okL (F q) -> vm c pl x (fQ c pl R (.again α F I μ (μ q) :: fs)) (mkE (F q))) : vm c pl (.loop x) (fQ c pl R fs) e := by
 refine vm_loopW F I μ p h0 hI fun q hq => ?_
 exact VW.known fun hr => vm_sound x _ _ hk (h q hq (okL_of (hn q) hr))
theorem okAs_args {c : Ctx} {w0 : World} {S0 : Nat -> Prop} {o0 : Own} {cargs : Array Value} {a : Act} {w : World} {S : Nat -> Prop} {o : Own} {xs : List AVal} (s : St c w0 S0 o0 cargs (mkE (numbered 0 xs)) a w S o) : okAs xs := by
 refine okAs_get fun i x hx => ?_
 have := okA_env s i
 have h2 := mkE_numbered xs 0 i
 rw [Nat.zero_add] at h2
 rw [h2] at this
 simpa [List.getD, hx] using this
theorem VCalls.go {f : FuncId} {fn : Func} {g : Sys} {nt : Nat} {keep muts mvs : List Nat} (pl : Draws) (hf : g.P.funcs[f]? = some fn) (hb : fn.body.isSome = true) (hnm : (fn.name == "runtime.NumGoroutine") = false) (hnt : nt = fn.ntmps)
  (hok : okCode ⟨g, nt, keep, muts, mvs⟩ pl (Func.code fn) = true) {xs : List AVal} {m : Option Nat} (hm : muts = m.toList)
  (hk : ∀ i, m = some i -> keep.contains i = true /\ i < xs.length) (hl : Nat.ble xs.length nt = true) {Post : AVal -> AVal -> Prop}
  (h : okAs xs -> vm ⟨g, nt, keep, muts, mvs⟩ pl (Func.code fn) (fQ ⟨g, nt, keep, muts, mvs⟩ pl (retK ⟨g, nt, keep, muts, mvs⟩ fn.results m Post) []) (mkE (numbered 0 xs))) : VCalls g f xs m Post := by
 refine VCalls.of ⟨g, nt, keep, muts, mvs⟩ hf hb hnm hnt hm hk hl ?_
 intro w0 S0 o0 cargs a w S ow s hh
 refine ((vm_sound _ _ _ hok (h (okAs_args s))).mono fun x e hx => ?_) w0 S0 o0 cargs a w S ow s hh
 cases x with
 | normal => simpa only [fQ] using hx
 | exit id => simp only [fQ] at hx
 | ret => simpa only [fQ] using hx
def callM (g : Sys) (f : FuncId) (i : Nat) (as : Option (List AVal)) (K : AVal -> AVal -> Prop) : Prop :=
 ∃ (bs : List AVal) (Post : AVal -> AVal -> Prop), as = some bs /\ VCalls g f bs (some i) Post /\ ∀ y x', Post y x' -> K y x'
def mutE (t : Nat) (K : AVal -> Env -> Prop) (e : Env) : AVal -> AVal -> Prop := fun y x' => K y (setN ⟨t, []⟩ (.ptr true x') (below ⟨t, [.idx 0]⟩) e)
theorem mutE_eq {t : Nat} {K : AVal -> Env -> Prop} {e : Env} {y x' : AVal} : mutE t K e y x' = K y (setN ⟨t, []⟩ (.ptr true x') (below ⟨t, [.idx 0]⟩) e) := nr rfl
theorem callM.eq {g : Sys} {f : FuncId} {i : Nat} {bs : List AVal} {v u : AVal} {K : AVal -> AVal -> Prop} (h : VCalls g f bs (some i) (fun y x' => y = v /\ x' = u)) (hk : K v u) : callM g f i (some bs) K := ⟨bs, _, rfl, h, fun y x' hp => by rw [hp.1, hp.2]; exact hk⟩
def setO (i : Nat) (x : AVal) : Option (List AVal) -> Option (List AVal)
 | some xs => some (xs.set i x)
 | none => none
theorem setO_some {i : Nat} {x : AVal} {xs : List AVal} : setO i x (some xs) = some (xs.set i x) := nr rfl
theorem call_mut {c : Ctx} {qt : Bool} {f : FuncId} {bs : List AVal} {e : Env} {K : AVal -> Env -> Prop} (i t : Nat) {x : AVal} (hq : qt = false) (h1 : bs[i]? = some (.adr ⟨t, []⟩ 0 [] 0)) (h2 : e t = .ptr true x) (h3 : noRef x = true)
  (h : callM c.g f i (setO i (.ptr true x) (snaps (fun _ => true) e (bs.set i .undef))) (mutE t K e)) : callK c qt f bs e K := by
 obtain ⟨as, Post, h4, h5, h6⟩ := h
 cases hs : snaps (fun _ => true) e (bs.set i .undef) with
 | none => rw [hs] at h4; cases h4
 | some as0 =>
  rw [hs] at h4
  cases h4
  refine .inl ⟨false, some i, _, Post, h5, hq, ⟨t, []⟩, x, as0, h1, ?_, h3, ?_, rfl, fun y x' hp => ⟨fun h => (by cases h), ?_⟩⟩
  ·simp only [getE, getP, h2]
  ·simp only [Bool.not_false, Bool.true_or]
   exact hs
  ·have := h6 y x' hp
   have he : setAt0 ⟨t, []⟩ 0 [] x' (setAt ⟨t, []⟩ 0 [] (killP (below (Loc.idx ⟨t, []⟩ 0)) (blank x)) (below (Loc.idx ⟨t, []⟩ 0)) e) = setN ⟨t, []⟩ (.ptr true x') (below ⟨t, [.idx 0]⟩) e := by
    funext r
    simp only [setAt0, setAt, getE, getP, h2, setN, putP, nodePut, putF, if_true, nodePut0]
    split <;> rfl
   rw [he]
   exact this
end Go.VS
/- VS: rules for operations on literals, and for values; the set of all rules. -/
set_option linter.unusedVariables false
set_option linter.unusedSimpArgs false
namespace Go.VS
def andI (k : IntKind) (a b : Int) : Int := k.wrap (BitVec.ofInt k.bits a &&& BitVec.ofInt k.bits b).toNat
def orI (k : IntKind) (a b : Int) : Int := k.wrap (BitVec.ofInt k.bits a ||| BitVec.ofInt k.bits b).toNat
def xorI (k : IntKind) (a b : Int) : Int := k.wrap (BitVec.ofInt k.bits a ^^^ BitVec.ofInt k.bits b).toNat
def notI (k : IntKind) (a : Int) : Int := k.wrap (BitVec.ofInt k.bits (if k.signed then -1 else k.max) ^^^ BitVec.ofInt k.bits a).toNat
def shlI (k : IntKind) (a b : Int) : Int := k.wrap (a * 2 ^ (min b.toNat k.bits))
def shrI (k : IntKind) (a b : Int) : Int := a.fdiv (2 ^ (min b.toNat k.bits))
theorem ba_beq (a b : ByteArray) : (a == b) = decide (a = b) := by
 obtain ⟨x⟩ := a
 obtain ⟨y⟩ := b
 show (x == y) = _
 by_cases h : x = y
 ·subst h
  simp
 ·have h2 : ¬ (ByteArray.mk x = ByteArray.mk y) := fun e => h (by injection e)
  rw [decide_eq_false h2]
  exact beq_eq_false_iff_ne.2 h
section
variable {P : Program} {t : TypeId} {xo yo : Operand} {k : IntKind} {a b : Int} {K : AVal -> Prop}
theorem b_add : binK P .add t xo yo (.lit (.int k a)) (.lit (.int k b)) K = K (.lit (.int k (k.wrap (a + b)))) := by simp [binK, binInt]
theorem b_sub : binK P .sub t xo yo (.lit (.int k a)) (.lit (.int k b)) K = K (.lit (.int k (k.wrap (a - b)))) := by simp [binK, binInt]
theorem b_mul : binK P .mul t xo yo (.lit (.int k a)) (.lit (.int k b)) K = K (.lit (.int k (k.wrap (a * b)))) := by simp [binK, binInt]
theorem b_quo : binK P .quo t xo yo (.lit (.int k a)) (.lit (.int k b)) K = (b ≠ 0 /\ K (.lit (.int k (k.wrap (a.tdiv b))))) := by
 by_cases h : b = 0 <;> simp [binK, binInt, h]
theorem b_rem : binK P .rem t xo yo (.lit (.int k a)) (.lit (.int k b)) K = (b ≠ 0 /\ K (.lit (.int k (a.tmod b)))) := by
 by_cases h : b = 0 <;> simp [binK, binInt, h]
theorem b_and : binK P .and t xo yo (.lit (.int k a)) (.lit (.int k b)) K = K (.lit (.int k (andI k a b))) := by simp [binK, binInt, andI]
theorem b_or : binK P .or t xo yo (.lit (.int k a)) (.lit (.int k b)) K = K (.lit (.int k (orI k a b))) := by simp [binK, binInt, orI]
theorem b_xor : binK P .xor t xo yo (.lit (.int k a)) (.lit (.int k b)) K = K (.lit (.int k (xorI k a b))) := by simp [binK, binInt, xorI]
theorem b_shl {k' : IntKind} : binK P .shl t xo yo (.lit (.int k a)) (.lit (.int k' b)) K = (0 <= b /\ K (.lit (.int k (shlI k a b)))) := by
 by_cases h : b < 0
 ·simp [binK, binInt, h, shlI, shrI]
  omega
 ·simp [binK, binInt, h, shlI, shrI]
  omega
theorem b_shr {k' : IntKind} : binK P .shr t xo yo (.lit (.int k a)) (.lit (.int k' b)) K = (0 <= b /\ K (.lit (.int k (shrI k a b)))) := by
 by_cases h : b < 0
 ·simp [binK, binInt, h, shlI, shrI]
  omega
 ·simp [binK, binInt, h, shlI, shrI]
  omega
theorem b_eql : binK P .eql t xo yo (.lit (.int k a)) (.lit (.int k b)) K = K (.lit (.bool (decide (a = b)))) := by
 have : (a == b) = decide (a = b) := by by_cases h : a = b <;> simp [h]
 simp [binK, binInt, this]
theorem b_neq : binK P .neq t xo yo (.lit (.int k a)) (.lit (.int k b)) K = K (.lit (.bool (decide (¬ a = b)))) := by
 have : (a != b) = decide (¬ a = b) := by by_cases h : a = b <;> simp [h]
 simp only [binK, binInt, if_true, this]
theorem b_lss : binK P .lss t xo yo (.lit (.int k a)) (.lit (.int k b)) K = K (.lit (.bool (decide (a < b)))) := by simp [binK, binInt]
theorem b_leq : binK P .leq t xo yo (.lit (.int k a)) (.lit (.int k b)) K = K (.lit (.bool (decide (a <= b)))) := by simp [binK, binInt]
theorem b_gtr : binK P .gtr t xo yo (.lit (.int k a)) (.lit (.int k b)) K = K (.lit (.bool (decide (b < a)))) := by simp [binK, binInt]
theorem b_geq : binK P .geq t xo yo (.lit (.int k a)) (.lit (.int k b)) K = K (.lit (.bool (decide (b <= a)))) := by simp [binK, binInt]
theorem s_add {a b : ByteArray} : binK P .add t xo yo (.lit (.string a)) (.lit (.string b)) K = (a.size + b.size <= maxLen /\ K (.lit (.string (a ++ b)))) := by
 by_cases h : a.size + b.size <= maxLen <;> simp [binK, binStr, h]
theorem s_eql {a b : ByteArray} : binK P .eql t xo yo (.lit (.string a)) (.lit (.string b)) K = K (.lit (.bool (decide (a = b)))) := by
 simp only [binK, binStr, ba_beq]
theorem s_neq {a b : ByteArray} : binK P .neq t xo yo (.lit (.string a)) (.lit (.string b)) K = K (.lit (.bool (decide (¬ a = b)))) := by
 have : (a != b) = decide (¬ a = b) := by rw [bne, ba_beq, decide_not]
 simp only [binK, binStr, this]
theorem s_lss {a b : ByteArray} : binK P .lss t xo yo (.lit (.string a)) (.lit (.string b)) K = K (.lit (.bool (Op.bytesLess a.toList b.toList))) := by simp [binK, binStr]
theorem s_gtr {a b : ByteArray} : binK P .gtr t xo yo (.lit (.string a)) (.lit (.string b)) K = K (.lit (.bool (!(Op.bytesLess a.toList b.toList || decide (a = b))))) := by
 simp only [binK, binStr, ba_beq]
theorem s_leq {a b : ByteArray} : binK P .leq t xo yo (.lit (.string a)) (.lit (.string b)) K = K (.lit (.bool (Op.bytesLess a.toList b.toList || decide (a = b)))) := by
 simp only [binK, binStr, ba_beq]
theorem s_geq {a b : ByteArray} : binK P .geq t xo yo (.lit (.string a)) (.lit (.string b)) K = K (.lit (.bool (!Op.bytesLess a.toList b.toList))) := by simp only [binK, binStr]
def boolK (op : BinOp) (ty : Option TypeDesc) (a b : Bool) (K : AVal -> Prop) : Prop :=
 match op, ty with
 | .eql, some .bool => K (.lit (.bool (a == b)))
 | .neq, some .bool => K (.lit (.bool (a != b)))
 | _, _ => False
theorem b_bool {op : BinOp} {a b : Bool} : binK P op t xo yo (.lit (.bool a)) (.lit (.bool b)) K = boolK op (P.underlying t) a b K := nr rfl
theorem boolK_eql {a b : Bool} : boolK .eql (some .bool) a b K = K (.lit (.bool (a == b))) := nr rfl
theorem boolK_neq {a b : Bool} : boolK .neq (some .bool) a b K = K (.lit (.bool (a != b))) := nr rfl
def aggEqK (op : BinOp) (r : Option Bool) (K : AVal -> Prop) : Prop :=
 match op, r with
 | .eql, some r => K (.lit (.bool r))
 | .neq, some r => K (.lit (.bool !r))
 | _, _ => False
def aggEqP (op : BinOp) (xs ys : List AVal) (K : AVal -> Prop) : Option (List Nat) -> Prop
 | some ks => aggEqK op (eqAgg ks xs ys) K
 | none => False
theorem b_agg {op : BinOp} {xs ys : List AVal} : binK P op t xo yo (.agg xs) (.agg ys) K = aggEqP op xs ys K (plainStruct P t) := by
 simp only [binK]
 cases plainStruct P t with
 | none => rfl
 | some ks => simp only [aggEqP, aggEqK]; rfl
theorem aggEqP_some {op : BinOp} {xs ys : List AVal} {ks : List Nat} : aggEqP op xs ys K (some ks) = aggEqK op (eqAgg ks xs ys) K := nr rfl
theorem aggEqK_eql {r : Bool} : aggEqK .eql (some r) K = K (.lit (.bool r)) := nr rfl
theorem aggEqK_neq {r : Bool} : aggEqK .neq (some r) K = K (.lit (.bool !r)) := nr rfl
def nilEqK (n : Nat) (K : AVal -> Prop) : Prop := ∀ b : Bool, (0 < n -> b = false) -> K (.lit (.bool b))
def nilEqT (n : Nat) (K : AVal -> Prop) : Option TypeDesc -> Prop
 | some (.slice _) => nilEqK n K
 | _ => False
theorem b_nilLst {own : Bool} {sz : Nat} {xs : List AVal} : binK P .eql t xo yo (.lst own sz xs) (.lit (.slice none 0 0)) K = nilEqT xs.length K (P.underlying t) := by
 simp only [binK, nilEqT, nilEqK]
 cases P.underlying t with
 | none => rfl
 | some d => cases d <;> rfl
theorem b_nilHref {l : Loc} {sz lo n : Nat} : binK P .eql t xo yo (.href l sz lo n) (.lit (.slice none 0 0)) K = nilEqT n K (P.underlying t) := by
 simp only [binK, nilEqT, nilEqK]
 cases P.underlying t with
 | none => rfl
 | some d => cases d <;> rfl
theorem nilEqT_some {n : Nat} {el : TypeId} : nilEqT n K (some (.slice el)) = nilEqK n K := nr rfl
theorem u_not {b : Bool} : unA .not (.lit (.bool b)) = some (.bool !b) := nr rfl
theorem u_neg : unA .neg (.lit (.int k a)) = some (.int k (k.wrap (0 - a))) := nr rfl
theorem u_xor : unA .xor (.lit (.int k a)) = some (.int k (notI k a)) := nr rfl
theorem unK_some {v : Value} : unK (some v) K = K (.lit v) := nr rfl
theorem allocK_some {z : AVal} : allocK (some z) K = K (.ptr true z) := nr rfl
theorem nilCheck_adr {l : Loc} {i : Nat} {fs : List Nat} {off : Nat} : nilCheckK (.adr l i fs off) K = K (.adr l i fs off) := nr rfl
theorem nilCheck_ptr {y : AVal} : nilCheckK (.ptr false y) K = K (.ptr false y) := nr rfl
def fptrK (fo : Nat) (K : AVal -> Prop) : Option (Nat × AVal) -> Prop
 | some (fo', z) => fo' = fo /\ 0 < z.w /\ K (.ptr false z)
 | none => False
theorem fieldAddr_adr {fo : Nat} {ft : TypeId} {n : Nat} {l : Loc} {i : Nat} {fs : List Nat} {off : Nat} : fieldAddrK (some (fo, ft)) n (.adr l i fs off) K = K (.adr l i (fs ++ [n]) (off + fo)) := nr rfl
theorem fieldAddr_ptr {fo : Nat} {ft : TypeId} {n : Nat} {y : AVal} : fieldAddrK (some (fo, ft)) n (.ptr false y) K = fptrK fo K (getF [n] y) := by
 simp only [fieldAddrK]
 cases getF [n] y <;> rfl
theorem fptrK_some {fo fo' : Nat} {z : AVal} : fptrK fo K (some (fo', z)) = (fo' = fo /\ 0 < z.w /\ K (.ptr false z)) := nr rfl
theorem field_some {n fo fo' : Nat} {ft : TypeId} {z : AVal} : fieldK P t n (some (fo, ft)) (some (fo', z)) K = (fo' = fo /\ 0 < z.w /\ z.w = P.cellsOf ft /\ aggT P ft = some (isAggA z) /\ K z) := nr rfl
def ixK (xs : List AVal) (n : Nat) (K : AVal -> Prop) : Prop := ∃ y, xs[n]? = some y /\ K (.ptr false y)
theorem indexAddr_lst {el : TypeId} {n : Int} {sz : Nat} {xs : List AVal} : indexAddrK P (some el) (.lit (.int k n)) (.lst false sz xs) K = (P.cellsOf el = sz /\ 0 < sz /\ 0 <= n /\ n < xs.length /\ ixK xs n.toNat K) := nr rfl
theorem indexAddr_href {el : TypeId} {n : Int} {sz lo m : Nat} {l : Loc} : indexAddrK P (some el) (.lit (.int k n)) (.href l sz lo m) K = (P.cellsOf el = sz /\ 0 < sz /\ 0 <= n /\ n < m /\ K (.adr l (lo + n.toNat) [] ((lo + n.toNat) * sz))) := nr rfl
theorem ixK_map {α : Type} [Inhabited α] {f : α -> AVal} {xs : List α} {n : Nat} : ixK (xs.map f) n K = (n < xs.length /\ K (.ptr false (f (xs.getD n default)))) := by
 unfold ixK
 apply propext
 constructor
 ·rintro ⟨y, h1, h2⟩
  have hn : n < xs.length := by have := (List.getElem?_eq_some_iff.1 h1).1; simpa using this
  refine ⟨hn, ?_⟩
  have : (xs.map f)[n]? = some (f (xs.getD n default)) := by simp [hn]
  rw [this] at h1
  cases h1
  exact h2
 ·rintro ⟨hn, h⟩
  exact ⟨f (xs.getD n default), by simp [hn], h⟩
theorem len_str {s : ByteArray} {es : Option (List (Value × Value))} : lenK (some .string) (.lit (.string s)) es K = (s.size <= maxLen -> K (.lit (.int .i64 s.size))) := nr rfl
theorem len_lst {el : TypeId} {sz : Nat} {xs : List AVal} {es : Option (List (Value × Value))} : lenK (some (.slice el)) (.lst false sz xs) es K = (xs.length <= maxLen -> K (.lit (.int .i64 xs.length))) := nr rfl
theorem len_mref {kt et : TypeId} {l : Loc} {es : List (Value × Value)} : lenK (some (.map kt et)) (.mref l) (some es) K = (es.length <= maxLen /\ K (.lit (.int .i64 es.length))) := nr rfl
theorem len_href {el : TypeId} {l : Loc} {sz lo n : Nat} {es : Option (List (Value × Value))} : lenK (some (.slice el)) (.href l sz lo n) es K = (n <= maxLen -> K (.lit (.int .i64 n))) := nr rfl
def extK (s i : Nat) (K : AVal -> Prop) : Option AVal -> Prop
 | some y => K (copyOut ⟨s, [.fld i]⟩ y)
 | none => False
theorem extract_tup {xs : List AVal} {s i : Nat} : extractK (.tup xs) s i K = extK s i K (nthL xs i) := by
 simp only [extractK, nthL_eq]
 cases xs[i]? <;> rfl
theorem extK_some {s i : Nat} {y : AVal} : extK s i K (some y) = K (copyOut ⟨s, [.fld i]⟩ y) := nr rfl
theorem index_str {s : ByteArray} {n : Int} : indexK (some .string) (.lit (.string s)) (.lit (.int k n)) K = (0 <= n /\ n < s.size /\ K (.lit (.int .u8 (s.data.toList.getD n.toNat 0).toNat))) := nr rfl
theorem makeFunc_eq {f : FuncId} {caps : List AVal} : makeFuncK f caps K = (caps.all capOk = true /\ K (.fn f caps)) := nr rfl
end
def isNilV : AVal -> Bool
 | .lit (.slice none 0 0) => true
 | _ => false
def buildS (K : AVal -> Prop) : Option (List AVal) -> Prop
 | some xs => K (.agg xs)
 | none => False
def setP (zs : List AVal) (k : Nat) (x : AVal) (ps : List (Nat × AVal)) : Option AVal -> Option (List AVal)
 | some z => if isNilV x = true then (if setParts.isNilList z = true then setParts zs ps else none) else if x.w = z.w /\ stOk x = true then setParts (setL zs k fun _ => x) ps else none
 | none => none
theorem build_some {zs : List AVal} {ps : List (Nat × AVal)} {K : AVal -> Prop} : buildK (some zs) ps K = buildS K (setParts zs ps) := by
 simp only [buildK]
 cases setParts zs ps <;> rfl
theorem buildS_some {xs : List AVal} {K : AVal -> Prop} : buildS K (some xs) = K (.agg xs) := nr rfl
theorem setParts_nil {zs : List AVal} : setParts zs [] = some zs := nr rfl
theorem setParts_cons {zs : List AVal} {k : Nat} {x : AVal} {ps : List (Nat × AVal)} : setParts zs ((k, x) :: ps) = setP zs k x ps (nthL zs k) := by
 have hs : ∀ (zs : List AVal) (k : Nat), zs.modify k (fun _ => x) = zs.set k x := fun zs k => by
  apply List.ext_getElem?
  intro j
  simp only [List.getElem?_modify, List.getElem?_set]
  by_cases hj : k = j
  ·subst hj
   by_cases hl : k < zs.length
   ·simp [hl]
   ·simp [hl]
  ·simp [hj]
 rw [nthL_eq]
 cases hz : zs[k]? with
 | none => simp only [setParts, hz, setP]
 | some z =>
  simp only [setParts, hz, setP, setL_eq, hs]
  cases x with
  | lit v =>
   cases v with
   | slice ad n cp =>
    cases ad with
    | some a => simp [isNilV]
    | none =>
     cases n with
     | succ n => simp [isNilV]
     | zero =>
      cases cp with
      | succ n => simp [isNilV]
      | zero => simp [isNilV]
   | _ => simp [isNilV]
  | _ => simp [isNilV]
theorem setP_some {zs : List AVal} {k : Nat} {x : AVal} {ps : List (Nat × AVal)} {z : AVal} : setP zs k x ps (some z) = if isNilV x = true then (if setParts.isNilList z = true then setParts zs ps else none) else if x.w = z.w /\ stOk x = true then setParts (setL zs k fun _ => x) ps else none := nr rfl
end Go.VS
