/- VS, eighteenth part: any operation that is no call of a function and no store. -/
import Derived.Test.YtejhoajebbigbaaGreatDoorVc
set_option linter.unusedVariables false
set_option linter.unusedSimpArgs false
namespace Go.VS
variable {c : Ctx} {w0 : World} {S0 : Nat -> Prop} {o0 : Own} {cargs : Array Value} {e : Env} {a : Act} {w : World} {S : Nat -> Prop} {ow : Own}
theorem opK_sound (s : St c w0 S0 o0 cargs e a w S ow) {t : Nat} (ht : free ow t) (htn : t <= c.nt) {o : Oper} (hc : constsOk c o.op = true) {rid : Nat} {K : AVal -> Env -> Prop} (h : opK c rid t o e K) :
  ∃ v w1, (execOp a.eval o).run c.g.P w = .ok (.value v) w1 /\ Out c w0 S0 o0 cargs a w t ow K v w1 := by
 unfold opK at h
 split at h
 ·rename_i x ho; exact (ok_move s hc ho h).out s
 ·rename_i x ho; exact ok_assign s ht htn hc ho h
 ·rename_i x y z ho
  split at h
  ·rename_i q hq; exact (ok_pick s hc ho hq h.1 h.2).out s
  ·exact h.elim
 ·rename_i x ho; exact (ok_nilCheck s hc ho h).out s
 ·rename_i ty ho
  split at h
  ·rename_i z hz; exact ok_alloc s ht htn ho hz h
  ·exact h.elim
 ·rename_i ty x ho; exact ok_box s ht htn hc ho h
 ·rename_i ty parts ho; exact ok_build s hc ho h
 ·rename_i ty len parts ho; exact ok_buildSlice s ht htn hc ho h
 ·rename_i ty x ho; exact (ok_load s hc ho h).out s
 ·rename_i op ty x y yt ho; exact (binK_ok s hc ho h).out s
 ·rename_i op ty x ho; exact (ok_unOp s hc ho h).out s
 ·rename_i src dst x ho; exact ok_convert s ht htn hc ho h
 ·rename_i fn first captured ho; exact (ok_makeFunc s hc ho h).out s
 ·rename_i ty len cap ho; exact ok_makeSlice s ht htn hc ho h (fun ty' z => zeroOf_noRef _ ty' z)
 ·rename_i ty x lo hi mx ho; exact ok_slice s hc ho h
 ·rename_i ty x k ho; exact (ok_fieldAddr s hc ho h).out s
 ·rename_i ty x k ho; exact ok_field s hc ho h
 ·rename_i ty x i ho; exact (ok_indexAddr s hc ho h).out s
 ·rename_i ty x i ho; exact (ok_index s hc ho h).out s
 ·rename_i x i ho; exact (ok_extract s hc ho h).out s
 ·rename_i args argTypes ho; exact (ok_len s hc ho h).out s
 ·rename_i ty ho; exact ok_makeMap s ht htn ho h
 ·rename_i ty x i ok ho; exact ok_lookup s hc ho h
 ·rename_i args argTypes ho; exact (ok_mm (mx := true) s hc ho h).out s
 ·rename_i args argTypes ho; exact (ok_mm (mx := false) s hc ho h).out s
 ·exact h.elim
def pureOp : Op -> Bool
 | .move _ => true
 | .pick .. => true
 | .nilCheck _ => true
 | .load .. => true
 | .binOp .. => true
 | .unOp .. => true
 | .makeFunc .. => true
 | .fieldAddr .. => true
 | .indexAddr .. => true
 | .index .. => true
 | .extract .. => true
 | .call { callee := .builtin .len, .. } => true
 | .call { callee := .builtin .max, .. } => true
 | .call { callee := .builtin .min, .. } => true
 | _ => false
theorem opK_pure (s : St c w0 S0 o0 cargs e a w S ow) {t : Nat} {o : Oper} (hp : pureOp o.op = true) (hc : constsOk c o.op = true) {rid : Nat} {K : AVal -> Env -> Prop} (h : opK c rid t o e K) : POut c a w S ow o t e K := by
 unfold opK at h
 split at h
 ·rename_i x ho; exact ok_move s hc ho h
 ·rename_i x ho; rw [ho] at hp; cases hp
 ·rename_i x y z ho
  split at h
  ·rename_i q hq; exact ok_pick s hc ho hq h.1 h.2
  ·exact h.elim
 ·rename_i x ho; exact ok_nilCheck s hc ho h
 ·rename_i ty ho; rw [ho] at hp; cases hp
 ·rename_i ty x ho; rw [ho] at hp; cases hp
 ·rename_i ty parts ho; rw [ho] at hp; cases hp
 ·rename_i ty len parts ho; rw [ho] at hp; cases hp
 ·rename_i ty x ho; exact ok_load s hc ho h
 ·rename_i op ty x y yt ho; exact binK_ok s hc ho h
 ·rename_i op ty x ho; exact ok_unOp s hc ho h
 ·rename_i src dst x ho; rw [ho] at hp; cases hp
 ·rename_i fn first captured ho; exact ok_makeFunc s hc ho h
 ·rename_i ty len cap ho; rw [ho] at hp; cases hp
 ·rename_i ty x lo hi mx ho; rw [ho] at hp; cases hp
 ·rename_i ty x k ho; exact ok_fieldAddr s hc ho h
 ·rename_i ty x k ho; rw [ho] at hp; cases hp
 ·rename_i ty x i ho; exact ok_indexAddr s hc ho h
 ·rename_i ty x i ho; exact ok_index s hc ho h
 ·rename_i x i ho; exact ok_extract s hc ho h
 ·rename_i args argTypes ho; exact ok_len s hc ho h
 ·rename_i ty ho; rw [ho] at hp; cases hp
 ·rename_i ty x i ok ho; rw [ho] at hp; cases hp
 ·rename_i args argTypes ho; exact ok_mm (mx := true) s hc ho h
 ·rename_i args argTypes ho; exact ok_mm (mx := false) s hc ho h
 ·exact h.elim
end Go.VS
/- VS, nineteenth part: how a result is put; what is held; the end of a region. -/
set_option linter.unusedVariables false
set_option linter.unusedSimpArgs false
namespace Go.VS
variable {c : Ctx} {w0 : World} {S0 : Nat -> Prop} {o0 : Own} {cargs : Array Value} {e : Env} {a : Act} {w : World} {S : Nat -> Prop} {ow : Own}
def Held (c : Ctx) (used : List Nat) (ow : Own) : Prop := ∀ b m, ow b = some m -> m.r ≠ c.nt /\ (c.keep.contains m.r = true \/ m.r ∈ used)
def tgt (c : Ctx) : Option Nat -> Nat
 | some d => if c.keep.contains d then c.nt else d
 | none => c.nt
def putO (c : Ctx) (d : Option Nat) (x : AVal) (e : Env) : Env :=
 match d with
 | some d => putE c d x e
 | none => fun r => killP (killRoots c.nt c.nt) (e r)
def dstOk (c : Ctx) (used : List Nat) : Option Nat -> Bool
 | some d => decide (d < c.nt) && !c.muts.contains d && !used.contains d
 | none => true
def usedBy (used : List Nat) : Option Nat -> List Nat
 | some d => d :: used
 | none => used
theorem tgt_le {used : List Nat} {d : Option Nat} (h : dstOk c used d = true) : tgt c d <= c.nt := by
 unfold tgt
 split
 ·split
  ·exact Nat.le_refl _
  ·simp [dstOk] at h; omega
 ·exact Nat.le_refl _
theorem tgt_free {used : List Nat} {d : Option Nat} (hh : Held c used ow) (h : dstOk c used d = true) : free ow (tgt c d) := fun b m hb hr => by
 obtain ⟨h1, h2⟩ := hh b m hb
 unfold tgt at hr
 split at hr
 ·rename_i d
  split at hr
  ·exact h1 hr
  ·rename_i hk
   subst hr
   simp [dstOk] at h
   rcases h2 with h2 | h2
   ·exact hk h2
   ·exact h.2 h2
 ·exact h1 hr
theorem St.letGo (s : St c w0 S0 o0 cargs e a w S ow) : St c w0 S0 o0 cargs (fun r => killP (killRoots c.nt c.nt) (e r)) a w S (dropO ow ⟨c.nt, []⟩) := by
 have hne : ∀ b m, ow b = some m -> m.r ≠ c.nt -> dropO ow ⟨c.nt, []⟩ b = some m := fun b m hb hr => dropO_ne hb fun h => hr h.1
 refine ⟨dropO_wo s.wo _, dropO_fr s.fr _, fun r => ?_, by rw [s.lim]; rfl, s.sz, s.df, s.mu⟩
 by_cases hr : r = c.nt
 ·subst hr
  rw [s.lim]
  exact .inl (.inl rfl)
 ·exact (s.env r).move _ (fun b h => ⟨h, rfl⟩) (fun b m hb hk => ⟨hne b m hb (by simpa [killRoots] using hk), .of_eq rfl⟩) ⟨r, []⟩ fun b q hb => ⟨hne b _ hb hr, rfl⟩
theorem St.putO (s : St c w0 S0 o0 cargs e a w S ow) {used : List Nat} {d : Option Nat} {ow0 : Own} (hh : Held c used ow0) (hn : ∀ b m, ow b = some m -> (∃ b' m', ow0 b' = some m' /\ m'.r = m.r) \/ m.r = tgt c d) (hd : dstOk c used d = true) {v : Value} {x : AVal}
  (r : RepV w.heap S ow ⟨tgt c d, []⟩ v x) : ∃ o1, St c w0 S0 o0 cargs (VS.putO c d x e) (a.put d v) w S o1 /\ Held c (usedBy used d) o1 := by
 have hn' : ∀ b m, ow b = some m -> (m.r ≠ c.nt /\ (c.keep.contains m.r = true \/ m.r ∈ used)) \/ m.r = tgt c d := fun b m hb => (hn b m hb).imp (fun ⟨b', m', h, hr⟩ => hr ▸ hh b' m' h) id
 cases d with
 | none =>
  refine ⟨_, s.letGo, fun b m hb => ?_⟩
  obtain ⟨h1, h2⟩ := dropO_eq hb
  rcases hn' b m h1 with h | h
  ·exact h
  ·exact absurd ⟨h, List.nil_prefix⟩ h2
 | some d =>
  have hd' := hd
  simp only [dstOk, Bool.and_eq_true, decide_eq_true_eq, Bool.not_eq_true', List.contains_eq_mem, decide_eq_false_iff_not] at hd
  obtain ⟨⟨h1, h2⟩, h3⟩ := hd
  by_cases hk : c.keep.contains d = true
  ·refine ⟨relab ow d c.nt, ?_, fun b m hb => ?_⟩
   ·simp only [tgt, hk, if_true] at r
    have := s.putKeep h1 h2 r
    simpa only [VS.putO, putE, hk, if_true] using this
   ·rcases relab_eq hb with ⟨h, _⟩ | ⟨_, k2, h⟩
    ·rw [h]
     exact ⟨by omega, .inl hk⟩
    ·rcases hn' b m h with h | h
     ·exact ⟨h.1, h.2.imp id (List.mem_cons_of_mem _)⟩
     ·simp only [tgt, hk, if_true] at h
      exact absurd h k2
  ·refine ⟨ow, ?_, fun b m hb => ?_⟩
   ·simp only [tgt, hk] at r
    have := s.putFresh h1 h2 r
    simp only [VS.putO, putE]
    rw [if_neg hk]
    exact this
   ·rcases hn' b m hb with h | h
    ·exact ⟨h.1, h.2.imp id (List.mem_cons_of_mem _)⟩
    ·simp only [tgt, hk] at h
     rw [if_neg (by simp)] at h
     exact ⟨by omega, .inr (by rw [h]; exact List.mem_cons_self)⟩
def notKept (c : Ctx) (m : Loc) : Bool := !c.keep.contains m.r
def restrict (c : Ctx) (e : Env) : Env := fun r => if c.keep.contains r then killP (notKept c) (e r) else .undef
def keptO (c : Ctx) (o : Own) : Own := fun b => match o b with
 | none => none
 | some m => if c.keep.contains m.r then some m else none
theorem keptO_eq {o : Own} {b : Nat} {m : Loc} (h : keptO c o b = some m) : o b = some m /\ c.keep.contains m.r = true := by
 unfold keptO at h
 split at h
 ·cases h
 ·rename_i m' hm'
  split at h
  ·cases h; exact ⟨hm', by assumption⟩
  ·cases h
theorem keptO_of {o : Own} {b : Nat} {m : Loc} (h : o b = some m) (hk : c.keep.contains m.r = true) : keptO c o b = some m := by
 simp only [keptO, h, hk, if_true]
theorem St.restrict (s : St c w0 S0 o0 cargs e a w S ow) : St c w0 S0 o0 cargs (VS.restrict c e) a w S (keptO c ow) := by
 refine ⟨⟨fun b m h => s.wo.rt _ _ (keptO_eq h).1, fun b b' m h h' => s.wo.inj _ _ _ (keptO_eq h).1 (keptO_eq h').1, fun b m h => s.wo.lt _ _ (keptO_eq h).1, fun b h => ⟨by simp [keptO, (s.wo.sh b h).1], (s.wo.sh b h).2⟩, s.wo.gl, s.wo.ngs⟩,
  ⟨s.fr.os, s.fr.tape, s.fr.output, s.fr.size, fun b h1 h2 => ⟨by simp [keptO, (s.fr.old b h1 h2).1], (s.fr.old b h1 h2).2⟩, s.fr.grow, s.fr.only, s.fr.shp⟩, fun r => ?_, ?_, s.sz, s.df, s.mu⟩
 ·unfold VS.restrict
  split
  ·rename_i hk
   exact (s.env r).move _ (fun b h => ⟨h, rfl⟩) (fun b m hb hn => ⟨keptO_of hb (by simpa [notKept] using hn), .of_eq rfl⟩) ⟨r, []⟩ fun b q hb => ⟨keptO_of hb hk, rfl⟩
  ·exact .inl (.inl rfl)
 ·unfold VS.restrict
  split
  ·rw [s.lim]; rfl
  ·rfl
theorem Held.restrict {used : List Nat} (h : Held c used ow) : Held c [] (keptO c ow) := fun b m hb => ⟨(h b m (keptO_eq hb).1).1, .inl (keptO_eq hb).2⟩
def Env.le (e' e : Env) : Prop := ∀ r, e' r = e r \/ e' r = .undef
theorem St.weaken (s : St c w0 S0 o0 cargs e a w S ow) {e' : Env} (h : Env.le e' e) : St c w0 S0 o0 cargs e' a w S ow :=
 ⟨s.wo, s.fr, fun r => by
  rcases h r with h | h
  ·rw [h]; exact s.env r
  ·rw [h]; exact .inl (.inl rfl), by
  rcases h c.nt with h | h
  ·rw [h]; exact s.lim
  ·exact h, s.sz, s.df, s.mu⟩
end Go.VS
/- VS, twentieth part: what a call sees of the caller's values. -/
set_option linter.unusedVariables false
set_option linter.unusedSimpArgs false
namespace Go.VS
variable {c : Ctx} {w0 : World} {S0 : Nat -> Prop} {o0 : Own} {cargs : Array Value} {e : Env} {a : Act} {w : World} {S : Nat -> Prop} {ow : Own}
mutual
def snap (bad : Loc -> Bool) (e : Env) : AVal -> Option AVal
 | .undef => some .undef
 | .lit v => some (.lit v)
 | .ifc => some .ifc
 | .agg xs => match snaps bad e xs with
  | some ys => some (.agg ys)
  | none => none
 | .tup _ => none
 | .lst false sz xs => some (.lst false sz xs)
 | .ptr false x => some (.ptr false x)
 | .mp false es => some (.mp false es)
 | .fn f caps => match snaps bad e caps with
  | some ys => some (.fn f ys)
  | none => none
 | .href l sz lo n => if bad l = true then none else match getE e l with
  | some (.lst true sz' xs) => if sz' = sz /\ lo + n <= xs.length then some (.lst false sz (toShds ((xs.drop lo).take n))) else none
  | _ => none
 | .adr l i fs off => if bad l = true then none else match getE e l with
  | some node => match nodeAt i fs node with
   | some (off', y) => if off' = off /\ noRef y = true then some (.ptr false (toShd y)) else none
   | none => none
  | none => none
 | .mref l => if bad l = true then none else match getE e l with
  | some (.mp true es) => some (.mp false es)
  | _ => none
 | _ => none
def snaps (bad : Loc -> Bool) (e : Env) : List AVal -> Option (List AVal)
 | [] => some []
 | x :: xs => match snap bad e x, snaps bad e xs with
  | some y, some ys => some (y :: ys)
  | _, _ => none
end
theorem snaps_get {bad : Loc -> Bool} {e : Env} : ∀ {xs ys : List AVal}, snaps bad e xs = some ys -> ys.length = xs.length /\ ∀ (i : Nat) (x y : AVal), xs[i]? = some x -> ys[i]? = some y -> snap bad e x = some y
 | [], ys, h => by
  simp only [snaps, Option.some.injEq] at h
  subst h
  exact ⟨rfl, fun i x y hx => by simp at hx⟩
 | x :: xs, ys, h => by
  simp only [snaps] at h
  split at h
  ·rename_i y ys' h1 h2
   cases h
   obtain ⟨h3, h4⟩ := snaps_get h2
   refine ⟨by simp [h3], fun i => ?_⟩
   cases i with
   | zero => intro x' y' hx hy; simp only [List.getElem?_cons_zero, Option.some.injEq] at hx hy; subst hx hy; exact h1
   | succ i => intro x' y' hx hy; exact h4 i x' y' (by simpa using hx) (by simpa using hy)
  ·cases h
theorem St.nodeRep (s : St c w0 S0 o0 cargs e a w S ow) {l : Loc} {node : AVal} (hg : getE e l = some node) (ho : ownNode node = true) : ∃ cs, Rep w.heap S ow l cs node := by
 obtain ⟨cn, rn⟩ := (s.env l.r).node (p := l.p) hg ho
 have el : (⟨l.r, []⟩ : Loc).ext l.p = l := by simp [Loc.ext]
 rw [el] at rn
 exact ⟨cn, rn⟩
theorem St.snap (s : St c w0 S0 o0 cargs e a w S ow) {bad : Loc -> Bool} {S1 : Nat -> Prop} (hS : ∀ b, S b -> S1 b) (hb : ∀ l b q, bad l = false -> ow b = some (l.ext q) -> S1 b) {l0 : Loc} {cs : List Value} {x : AVal}
  (r : Rep w.heap S ow l0 cs x) : ∀ {y : AVal}, VS.snap bad e x = some y -> RepS w.heap S1 cs y := by
 induction r with
 | shd r =>
  clear hb
  induction r with
  | undef a => intro y h; simp only [VS.snap, Option.some.injEq] at h; subst h; exact .undef a
  | lit a => intro y h; simp only [VS.snap, Option.some.injEq] at h; subst h; exact .lit a
  | ifc => intro y h; simp only [VS.snap, Option.some.injEq] at h; subst h; exact .ifc
  | agg hl _ ih =>
   intro y h
   simp only [VS.snap] at h
   split at h
   ·rename_i ys h1
    cases h
    obtain ⟨h2, h3⟩ := snaps_get h1
    refine .agg (hl.trans h2.symm) fun i cc z hc hz => ?_
    obtain ⟨x', hx'⟩ : ∃ x', _ = some x' := ⟨_, List.getElem?_eq_getElem (by rw [<- h2]; exact (List.getElem?_eq_some_iff.1 hz).1)⟩
    exact ih i cc x' hc hx' (h3 i x' z hx' hz)
   ·cases h
  | emp a => intro y h; simp only [VS.snap, Option.some.injEq] at h; subst h; exact .emp a
  | lst a b c d e r _ => intro y h; simp only [VS.snap, Option.some.injEq] at h; subst h; exact RepS.mono (fun b h => ⟨hS b h, rfl⟩) (.lst a b c d e r)
  | ptr a b c r _ => intro y h; simp only [VS.snap, Option.some.injEq] at h; subst h; exact RepS.mono (fun b h => ⟨hS b h, rfl⟩) (.ptr a b c r)
  | mp a b => intro y h; simp only [VS.snap, Option.some.injEq] at h; subst h; exact .mp a (hS _ b)
  | mpNil => intro y h; simp only [VS.snap, Option.some.injEq] at h; subst h; exact .mpNil
  | fn hl _ ih =>
   intro y h
   simp only [VS.snap] at h
   split at h
   ·rename_i ys h1
    cases h
    obtain ⟨h2, h3⟩ := snaps_get h1
    refine .fn (hl.trans h2.symm) fun i cc z hc hz => ?_
    obtain ⟨x', hx'⟩ : ∃ x', _ = some x' := ⟨_, List.getElem?_eq_getElem (by rw [<- h2]; exact (List.getElem?_eq_some_iff.1 hz).1)⟩
    exact ih i cc x' hc hx' (h3 i x' z hx' hz)
   ·cases h
 | agg hl _ ih =>
  intro y h
  simp only [VS.snap] at h
  split at h
  ·rename_i ys h1
   cases h
   obtain ⟨h2, h3⟩ := snaps_get h1
   refine .agg (hl.trans h2.symm) fun i cc z hc hz => ?_
   obtain ⟨x', hx'⟩ : ∃ x', _ = some x' := ⟨_, List.getElem?_eq_getElem (by rw [<- h2]; exact (List.getElem?_eq_some_iff.1 hz).1)⟩
   exact ih i cc x' hc hx' (h3 i x' z hx' hz)
  ·cases h
 | fn hl _ ih =>
  intro y h
  simp only [VS.snap] at h
  split at h
  ·rename_i ys h1
   cases h
   obtain ⟨h2, h3⟩ := snaps_get h1
   refine .fn (hl.trans h2.symm) fun i cc z hc hz => ?_
   obtain ⟨x', hx'⟩ : ∃ x', _ = some x' := ⟨_, List.getElem?_eq_getElem (by rw [<- h2]; exact (List.getElem?_eq_some_iff.1 hz).1)⟩
   exact ih i cc x' hc hx' (h3 i x' z hx' hz)
  ·cases h
 | nil => intro y h; simp [VS.snap] at h
 | lst => intro y h; simp [VS.snap] at h
 | ptr => intro y h; simp [VS.snap] at h
 | mp => intro y h; simp [VS.snap] at h
 | @hrefN _ m sz =>
  intro y h
  simp only [VS.snap] at h
  split at h
  ·cases h
  ·split at h
   ·split at h
    ·cases h
     simp only [List.take_zero, toShds]
     exact .emp (Nat.zero_le _)
    ·cases h
   ·cases h
 | @href _ m b cap cur t fr sz lo n hbk hob hfr hsz hn hmx =>
  intro y h
  simp only [VS.snap] at h
  split at h
  ·cases h
  ·rename_i hbad
   split at h
   ·rename_i sz' xs hg
    split at h
    ·rename_i hcnd
     obtain ⟨rfl, hlen⟩ := hcnd
     cases h
     obtain ⟨cn, rn⟩ := s.nodeRep hg rfl
     have hl : (toShds ((xs.drop lo).take n)).length = n := by rw [toShds_map]; simp; omega
     rcases rn.lst_inv with ⟨rfl, rfl⟩ | ⟨b', cap', cur', t', fr', rfl, hb', ho', hfr', hsz', hlen', hcap', hnr, hm⟩
     ·simp at hlen
      obtain ⟨rfl, rfl⟩ := hlen
      simp only [List.drop_nil, List.take_nil, toShds]
      exact .emp (by omega)
     ·obtain rfl := s.wo.inj _ _ _ hob ho'
      rw [hbk] at hb'
      cases hb'
      have hS1 : S1 b := hb m b [] (by simpa using hbad) (by rw [Loc.ext_nil]; exact hob)
      have := RepS.lst (h := w.heap) (S := S1) (off := lo * sz') (cap := cap) (sz := sz') (xs := toShds ((xs.drop lo).take n)) hbk hS1
       (by rw [hl, hsz, <- Nat.add_mul]; exact Nat.mul_le_mul_right _ (by omega)) (by omega) (by omega) (fun i z hz => by
        rw [toShds_map, List.getElem?_map] at hz
        obtain ⟨z', hz', rfl⟩ := Option.map_eq_some_iff.1 hz
        rw [List.getElem?_take] at hz'
        split at hz'
        ·rw [List.getElem?_drop] at hz'
         have hr := hm _ z' hz'
         have hzn := noRefs_get hnr hz'
         rw [show lo * sz' + i * sz' = (lo + i) * sz' by rw [Nat.add_mul]]
         exact hr.toShd hS hzn fun b2 q hq => hb m b2 (.idx (lo + i) :: q) (by simpa using hbad) (by rw [<- Loc.idx_ext]; exact hq)
        ·cases hz')
      rwa [hl] at this
    ·cases h
   ·cases h
 | @adr _ m b cur t fr i fs off hbk hob =>
  intro y h
  simp only [VS.snap] at h
  split at h
  ·cases h
  ·rename_i hbad
   split at h
   ·rename_i node hg
    split at h
    ·rename_i off' z hy
     split at h
     ·rename_i hcnd
      obtain ⟨rfl, hnr⟩ := hcnd
      cases h
      obtain ⟨cur', t', fr', hb', hfit, hfr, hr⟩ := s.content hg hy hob
      have hS1 : S1 b := hb m b [] (by simpa using hbad) (by rw [Loc.ext_nil]; exact hob)
      refine .ptr hb' hS1 (by rw [toShd_w]; exact hfit) ?_
      rw [toShd_w]
      refine hr.toShd hS hnr fun b2 q hq => hb m b2 (.idx i :: (fs.map .fld ++ q)) (by simpa using hbad) ?_
      rw [hq]
      simp [Loc.flds, Loc.ext, Loc.idx]
     ·cases h
    ·cases h
   ·cases h
 | @mref _ m b k es hbk hob =>
  intro y h
  simp only [VS.snap] at h
  split at h
  ·cases h
  ·rename_i hbad
   split at h
   ·rename_i es' hg
    cases h
    obtain ⟨cn, rn⟩ := s.nodeRep hg rfl
    obtain ⟨b', ms, k', _, hb', ho', rfl⟩ := rn.mp_inv
    obtain rfl := s.wo.inj _ _ _ hob ho'
    exact .mp hb' (hb m b [] (by simpa using hbad) (by rw [Loc.ext_nil]; exact hob))
   ·cases h
end Go.VS
/- VS, twenty-first part: how a function answers; calls. -/
set_option linter.unusedVariables false
set_option linter.unusedSimpArgs false
namespace Go.VS
variable {c : Ctx} {w0 : World} {S0 : Nat -> Prop} {o0 : Own} {cargs : Array Value} {e : Env} {a : Act} {w : World} {S : Nat -> Prop} {ow : Own}
def Gives (P : Program) (f : FuncId) (args : Array Value) (w : World) (R : Value -> World -> Prop) : Prop :=
 match (callFunc f args).run P w with
 | .ok (.value v) w' => R v w'
 | .ok (.enter f' args') w' => Calls P f' args' w' fun
  | .returned v, w'' => R v w''
  | _, _ => False
 | .ok (.row row args') w' => Rows P row args' w' R
 | _ => False
theorem Gives.mono {P : Program} {f : FuncId} {args : Array Value} {w : World} {R R' : Value -> World -> Prop} (h : Gives P f args w R) (hr : ∀ v w', R v w' -> R' v w') : Gives P f args w R' := by
 unfold Gives at *
 split at h
 ·exact hr _ _ h
 ·exact Calls.mono h fun e w' he => by cases e <;> first | exact hr _ _ he | exact he
 ·exact Rows.mono h hr
 ·exact h.elim
def VCalls (g : Sys) (f : FuncId) (as : List AVal) (m : Option Nat) (Post : AVal -> AVal -> Prop) : Prop :=
 ∀ (w : World) (S : Nat -> Prop) (o : Own) (args : Array Value), args.size = as.length -> Wo g as.length w S o -> (∀ b l, o b = some l -> m = some l.r /\ l.r < as.length) →
  (∀ (i : Nat) (v : Value) (x : AVal), args[i]? = some v -> as[i]? = some x -> RepV w.heap S o ⟨i, []⟩ v x) →
  Gives g.P f args w fun v w' => ∃ y x' S' o', Post y x' /\ Wo g as.length w' S' o' /\ Fr w S o w' S' o' /\ (∀ b l, o' b = some l -> l.r = as.length \/ m = some l.r) ∧
   RepV w'.heap S' o' ⟨as.length, []⟩ v y /\ noRef y = true /\ (∀ (i : Nat) (u : Value), m = some i -> args[i]? = some u -> RepV w'.heap S' o' ⟨i, []⟩ u (.ptr true x') /\ noRef x' = true)
mutual
def closedA : AVal -> Bool
 | .undef => true
 | .lit _ => true
 | .ifc => true
 | .agg xs => closedAs xs
 | .tup xs => closedAs xs
 | .lst own _ xs => own && closedAs xs
 | .ptr own x => own && closedA x
 | .mp own _ => own
 | .fn _ caps => closedAs caps
 | .href .. => true
 | .adr .. => true
 | .mref _ => true
def closedAs : List AVal -> Bool
 | [] => true
 | x :: xs => closedA x && closedAs xs
end
theorem closedAs_get : ∀ {xs : List AVal}, closedAs xs = true -> ∀ {i : Nat} {x : AVal}, xs[i]? = some x -> closedA x = true
 | [], _, i, x, h => by simp at h
 | y :: ys, hc, 0, x, h => by
  simp only [closedAs, Bool.and_eq_true] at hc
  simp only [List.getElem?_cons_zero, Option.some.injEq] at h
  exact h ▸ hc.1
 | y :: ys, hc, i + 1, x, h => by
  simp only [closedAs, Bool.and_eq_true] at hc
  exact closedAs_get hc.2 (by simpa using h)
theorem RepS.closed {h : Array Obj} {S S' : Nat -> Prop} {cs : List Value} {x : AVal} (r : RepS h S cs x) : closedA x = true -> RepS h S' cs x := by
 induction r with
 | undef a => exact fun _ => .undef a
 | lit a => exact fun _ => .lit a
 | ifc => exact fun _ => .ifc
 | agg a _ ih => exact fun hc => .agg a fun i c x h1 h2 => ih i c x h1 h2 (closedAs_get (by simpa [closedA] using hc) h2)
 | emp a => exact fun hc => by simp [closedA] at hc
 | lst => exact fun hc => by simp [closedA] at hc
 | ptr => exact fun hc => by simp [closedA] at hc
 | mp => exact fun hc => by simp [closedA] at hc
 | mpNil => exact fun hc => by simp [closedA] at hc
 | fn a _ ih => exact fun hc => .fn a fun i c x h1 h2 => ih i c x h1 h2 (closedAs_get (by simpa [closedA] using hc) h2)
theorem Rep.closed {h : Array Obj} {S S' : Nat -> Prop} {o : Own} {l : Loc} {cs : List Value} {x : AVal} (r : Rep h S o l cs x) : closedA x = true -> Rep h S' o l cs x := by
 induction r with
 | shd a => exact fun hc => .shd (a.closed hc)
 | agg a _ ih => exact fun hc => .agg a fun i c x h1 h2 => ih i c x h1 h2 (closedAs_get (by simpa [closedA] using hc) h2)
 | nil => exact fun _ => .nil
 | lst a b d e f g k _ ih => exact fun hc => .lst a b d e f g k fun i x hx => ih i x hx (closedAs_get (by simpa [closedA] using hc) hx)
 | ptr a b d _ ih => exact fun hc => .ptr a b d (ih (by simpa [closedA] using hc))
 | mp a b => exact fun _ => .mp a b
 | fn a _ ih => exact fun hc => .fn a fun i c x h1 h2 => ih i c x h1 h2 (closedAs_get (by simpa [closedA] using hc) h2)
 | hrefN => exact fun _ => .hrefN
 | href a b d e f g => exact fun _ => .href a b d e f g
 | adr a b => exact fun _ => .adr a b
 | mref a b => exact fun _ => .mref a b
theorem RepV.closed {h : Array Obj} {S S' : Nat -> Prop} {o : Own} {l : Loc} {v : Value} {x : AVal} (r : RepV h S o l v x) (hc : closedA x = true) : RepV h S' o l v x := by
 rcases r with (r | ⟨r, hg⟩) | ⟨vs, xs, rfl, rfl, hs, hv⟩
 ·exact .inl (.inl r)
 ·exact .inl (.inr ⟨r.closed hc, hg⟩)
 ·refine .inr ⟨vs, xs, rfl, rfl, hs, fun i u x hu hx => ?_⟩
  rcases hv i u x hu hx with r | ⟨r, hg⟩
  ·exact .inl r
  ·exact .inr ⟨r.closed (closedAs_get (by simpa [closedA] using hc) hx), hg⟩
theorem St.snapV (s : St c w0 S0 o0 cargs e a w S ow) {bad : Loc -> Bool} {S1 : Nat -> Prop} (hS : ∀ b, S b -> S1 b) (hb : ∀ l b q, bad l = false -> ow b = some (l.ext q) -> S1 b) {l0 : Loc} {v : Value} {x y : AVal}
  (r : RepV w.heap S ow l0 v x) (h : VS.snap bad e x = some y) (o1 : Own) (l : Loc) : RepV w.heap S1 o1 l v y := by
 rcases r with (r | ⟨r, hg⟩) | ⟨vs, xs, rfl, rfl, hs, hv⟩
 ·subst r
  simp only [VS.snap, Option.some.injEq] at h
  exact .inl (.inl h.symm)
 ·have hr := s.snap hS hb r h
  refine .inl (.inr ⟨.shd hr, ?_⟩)
  rw [<- hg]
  clear r hr hg
  cases x with
  | agg xs => simp only [VS.snap] at h; split at h <;> cases h; rfl
  | lst own sz xs => cases own <;> simp [VS.snap] at h; subst h; rfl
  | ptr own x => cases own <;> simp [VS.snap] at h; subst h; rfl
  | mp own es => cases own <;> simp [VS.snap] at h; subst h; rfl
  | fn f caps => simp only [VS.snap] at h; split at h <;> cases h; rfl
  | href l sz lo n => simp only [VS.snap] at h; repeat' split at h
                      all_goals first | (cases h; done) | (cases h; rfl)
  | adr l i fs off => simp only [VS.snap] at h; repeat' split at h
                      all_goals first | (cases h; done) | (cases h; rfl)
  | mref l => simp only [VS.snap] at h; repeat' split at h
              all_goals first | (cases h; done) | (cases h; rfl)
  | undef => simp only [VS.snap, Option.some.injEq] at h; subst h; rfl
  | lit v => simp only [VS.snap, Option.some.injEq] at h; subst h; rfl
  | ifc => simp only [VS.snap, Option.some.injEq] at h; subst h; rfl
  | tup xs => simp [VS.snap] at h
 ·simp [VS.snap] at h
end Go.VS
/- VS: trees that are shared from now on. -/
set_option linter.unusedVariables false
set_option linter.unusedSimpArgs false
namespace Go.VS
variable {c : Ctx} {w0 : World} {S0 : Nat -> Prop} {o0 : Own} {cargs : Array Value} {e : Env} {a : Act} {w : World} {S : Nat -> Prop} {ow : Own}
def frzE (rs : List Nat) (e : Env) : Env := fun r => if rs.contains r = true then toShd (e r) else killP (fun m => rs.contains m.r) (e r)
def frzO (rs : List Nat) (o : Own) : Own := fun b => match o b with
 | none => none
 | some m => if rs.contains m.r = true then none else some m
def frzS (rs : List Nat) (S : Nat -> Prop) (o : Own) : Nat -> Prop := fun b => S b \/ ∃ m, o b = some m /\ rs.contains m.r = true
theorem frzO_eq {rs : List Nat} {o : Own} {b : Nat} {m : Loc} (h : frzO rs o b = some m) : o b = some m /\ rs.contains m.r = false := by
 unfold frzO at h
 split at h
 ·cases h
 ·rename_i m' hm
  split at h
  ·cases h
  ·rename_i hc
   cases h
   exact ⟨hm, by simpa using hc⟩
theorem frzO_of {rs : List Nat} {o : Own} {b : Nat} {m : Loc} (h : o b = some m) (hc : rs.contains m.r = false) : frzO rs o b = some m := by
 unfold frzO
 rw [h]
 simp only [hc, Bool.false_eq_true, if_false]
theorem isAgg_shd (x : AVal) : isAggA (toShd x) = isAggA x := by cases x <;> simp only [toShd, isAggA]
theorem RepV1.toShd {h : Array Obj} {S' : Nat -> Prop} (hS : ∀ b, S b -> S' b) {l : Loc} {v : Value} {x : AVal} (r : RepV1 h S ow l v x) (n : noRef x = true) (hO : ∀ b q, ow b = some (l.ext q) -> S' b) (o' : Own) (l' : Loc) : RepV1 h S' o' l' v (VS.toShd x) := by
 rcases r with rfl | ⟨r, ha⟩
 ·exact .inl (by simp only [VS.toShd])
 ·exact .inr ⟨.shd (r.toShd hS n hO), by rw [isAgg_shd, ha]⟩
theorem RepV.toShd {h : Array Obj} {S' : Nat -> Prop} (hS : ∀ b, S b -> S' b) {l : Loc} {v : Value} {x : AVal} (r : RepV h S ow l v x) (n : noRef x = true) (hO : ∀ b q, ow b = some (l.ext q) -> S' b) (o' : Own) (l' : Loc) : RepV h S' o' l' v (VS.toShd x) := by
 rcases r with r | ⟨vs, xs, rfl, rfl, hs, hv⟩
 ·exact .inl (r.toShd hS n hO o' l')
 ·refine .inr ⟨vs, toShds xs, by simp only [VS.toShd], rfl, by rw [toShds_map]; simpa using hs, fun i u x hu hx => ?_⟩
  rw [toShds_map, List.getElem?_map] at hx
  obtain ⟨y, hy, rfl⟩ := Option.map_eq_some_iff.1 hx
  exact (hv i u y hu hy).toShd hS (noRefs_get (by simpa only [noRef] using n) hy) (fun b q hb => hO b (.fld i :: q) (by rw [<- Loc.fld_ext]; exact hb)) o' _
theorem St.freeze (s : St c w0 S0 o0 cargs e a w S ow) (rs : List Nat) (hn : ∀ r, rs.contains r = true -> noRef (e r) = true) : St c w0 S0 o0 cargs (frzE rs e) a w (frzS rs S ow) (frzO rs ow) := by
 refine ⟨⟨fun b m h => s.wo.rt _ _ (frzO_eq h).1, fun b b' m h h' => s.wo.inj _ _ _ (frzO_eq h).1 (frzO_eq h').1, fun b m h => s.wo.lt _ _ (frzO_eq h).1, fun b h => ?_, s.wo.gl, s.wo.ngs⟩,
  ⟨s.fr.os, s.fr.tape, s.fr.output, s.fr.size, fun b h1 h2 => ⟨by simp [frzO, (s.fr.old b h1 h2).1], (s.fr.old b h1 h2).2⟩, fun b h => .inl (s.fr.grow b h), fun b h => ?_, s.fr.shp⟩, fun r => ?_, ?_, s.sz, s.df, s.mu⟩
 ·rcases h with h | ⟨m, h, hc⟩
  ·exact ⟨by simp [frzO, (s.wo.sh b h).1], (s.wo.sh b h).2⟩
  ·exact ⟨by unfold frzO; rw [h]; simp only [hc, if_true], (s.wo.lt b m h).1⟩
 ·rcases h with h | ⟨m, h, hc⟩
  ·exact s.fr.only b h
  ·by_cases hb : b < w0.heap.size
   ·refine .inr (.inr fun h0 => ?_)
    have := (s.fr.old b hb h0).1
    rw [h] at this
    cases this
   ·exact .inr (.inl (by omega))
 ·unfold frzE
  split
  ·rename_i hr
   exact (s.env r).toShd (fun b h => .inl h) (hn r hr) (fun b q hq => .inr ⟨_, hq, hr⟩) _ _
  ·rename_i hr
   exact (s.env r).move _ (fun b h => ⟨.inl h, rfl⟩) (fun b m hb hm => ⟨frzO_of hb hm, .of_eq rfl⟩) ⟨r, []⟩ fun b q hq => ⟨frzO_of hq (by show rs.contains r = false; simpa using hr), rfl⟩
 ·unfold frzE
  rw [s.lim]
  split <;> rfl
mutual
theorem snap_idem {bad bad' : Loc -> Bool} {e e' : Env} : ∀ (x : AVal) {y : AVal}, snap bad e x = some y -> snap bad' e' y = some y
 | .undef, y, h => by simp only [snap, Option.some.injEq] at h; subst h; simp only [snap]
 | .lit v, y, h => by simp only [snap, Option.some.injEq] at h; subst h; simp only [snap]
 | .ifc, y, h => by simp only [snap, Option.some.injEq] at h; subst h; simp only [snap]
 | .agg xs, y, h => by
  simp only [snap] at h
  split at h
  ·rename_i ys h1
   cases h
   simp only [snap, snaps_idem xs h1]
  ·cases h
 | .tup xs, y, h => by simp [snap] at h
 | .lst false sz xs, y, h => by simp only [snap, Option.some.injEq] at h; subst h; simp only [snap]
 | .lst true sz xs, y, h => by simp [snap] at h
 | .ptr false x, y, h => by simp only [snap, Option.some.injEq] at h; subst h; simp only [snap]
 | .ptr true x, y, h => by simp [snap] at h
 | .mp false es, y, h => by simp only [snap, Option.some.injEq] at h; subst h; simp only [snap]
 | .mp true es, y, h => by simp [snap] at h
 | .fn f xs, y, h => by
  simp only [snap] at h
  split at h
  ·rename_i ys h1
   cases h
   simp only [snap, snaps_idem xs h1]
  ·cases h
 | .href l sz lo n, y, h => by
  simp only [snap] at h
  split at h
  ·cases h
  ·split at h
   ·split at h
    ·cases h
     simp only [snap]
    ·cases h
   ·cases h
 | .adr l i fs off, y, h => by
  simp only [snap] at h
  split at h
  ·cases h
  ·split at h
   ·split at h
    ·split at h
     ·cases h
      simp only [snap]
     ·cases h
    ·cases h
   ·cases h
 | .mref l, y, h => by
  simp only [snap] at h
  split at h
  ·cases h
  ·split at h
   ·cases h
    simp only [snap]
   ·cases h
theorem snaps_idem {bad bad' : Loc -> Bool} {e e' : Env} : ∀ (xs : List AVal) {ys : List AVal}, snaps bad e xs = some ys -> snaps bad' e' ys = some ys
 | [], ys, h => by simp only [snaps, Option.some.injEq] at h; subst h; simp only [snaps]
 | x :: xs, ys, h => by
  simp only [snaps] at h
  split at h
  ·rename_i y ys' h1 h2
   cases h
   simp only [snaps, snap_idem x h1, snaps_idem xs h2]
  ·cases h
end
end Go.VS
/- VS, twenty-second part: the call of a function. -/
set_option linter.unusedVariables false
set_option linter.unusedSimpArgs false
namespace Go.VS
variable {c : Ctx} {w0 : World} {S0 : Nat -> Prop} {o0 : Own} {cargs : Array Value} {e : Env} {a : Act} {w : World} {S : Nat -> Prop} {ow : Own}
def OutC (c : Ctx) (w0 : World) (S0 : Nat -> Prop) (o0 : Own) (cargs : Array Value) (a : Act) (w : World) (qt : Bool) (t : Nat) (ow : Own) (K : AVal -> Env -> Prop) (v : Value) (w1 : World) : Prop :=
 ∃ x e1 S1 o1, K x e1 /\ St c w0 S0 o0 cargs e1 a w1 S1 o1 /\ RepV w1.heap S1 o1 ⟨t, []⟩ v x /\ (∀ b m, o1 b = some m -> (∃ b' m', ow b' = some m' /\ m'.r = m.r) \/ m.r = t) /\ (qt = true -> Quiet w w1)
theorem OutC.weak {qt : Bool} {t : Nat} {K : AVal -> Env -> Prop} {v : Value} {w1 : World} (h : OutC c w0 S0 o0 cargs a w true t ow K v w1) : OutC c w0 S0 o0 cargs a w qt t ow K v w1 := by
 obtain ⟨x, e1, S1, o1, h1, h2, h3, h4, h5⟩ := h
 exact ⟨x, e1, S1, o1, h1, h2, h3, h4, fun _ => h5 rfl⟩
theorem Out.outC {t : Nat} {K : AVal -> Env -> Prop} {v : Value} {w1 : World} (h : Out c w0 S0 o0 cargs a w t ow K v w1) (qt : Bool) : OutC c w0 S0 o0 cargs a w qt t ow K v w1 := by
 obtain ⟨x, e1, S1, o1, h1, h2, h3, h4, h5⟩ := h
 refine ⟨x, e1, S1, o1, h1, h2, h3, ?_, fun _ => h5⟩
 exact (fun b m hm => (h4 b m hm).imp (fun h => ⟨b, m, h, rfl⟩) fun ⟨q, h⟩ => by rw [h]; rfl)
def near (l m : Loc) : Bool := l.r == m.r && (fuzzy l.p m.p || fuzzy m.p l.p)
theorem near_of {l m : Loc} (h : near l m = false) (q : List Step) : ¬ ((m.ext q).r = l.r /\ l.p <+: (m.ext q).p) := by
 rintro ⟨h1, h2⟩
 simp only [Loc.ext] at h1 h2
 simp only [near, Bool.and_eq_false_iff, beq_eq_false_iff_ne, Bool.or_eq_false_iff] at h
 rcases h with h | ⟨h3, h4⟩
 ·exact h h1.symm
 ·rcases List.prefix_or_prefix_of_prefix h2 (List.prefix_append m.p q) with h5 | h5
  ·rw [fuzzy_of h5] at h3; cases h3
  ·rw [fuzzy_of h5] at h4; cases h4
def callP (c : Ctx) (qt : Bool) (f : FuncId) (bs : List AVal) (e : Env) (K : AVal -> Env -> Prop) : Prop :=
 ∃ (lend : Bool) (m : Option Nat) (as : List AVal) (Post : AVal -> AVal -> Prop), VCalls c.g f as m Post ∧
  match m with
  | none => (snaps (fun _ => !lend) e bs = some as /\ ∀ y x', Post y x' -> (lend = true -> closedA y = true) /\ K y e) ∨
    (∃ rs : List Nat, (∀ r, rs.contains r = true -> noRef (e r) = true) /\ snaps (fun l => !rs.contains l.r) e bs = some as /\ ∀ y x', Post y x' -> K y (frzE rs e))
  | some i => qt = false /\ ∃ l x as0, bs[i]? = some (.adr l 0 [] 0) /\ getE e l = some (.ptr true x) /\ noRef x = true /\ snaps (fun l' => !lend || near l l') e (bs.set i .undef) = some as0 /\ as = as0.set i (.ptr true x) ∧
    ∀ y x', Post y x' -> (lend = true -> closedA y = true /\ closedA x' = true) /\ K y (setAt0 l 0 [] x' (setAt l 0 [] (killP (below (l.idx 0)) (blank x)) (below (l.idx 0)) e))
def backO (o' : Own) (n t : Nat) (ow : Own) : Own := fun b => match o' b with
 | some m => if m.r = n then some ⟨t, m.p⟩ else none
 | none => ow b
theorem call_none (s : St c w0 S0 o0 cargs e a w S ow) {t : Nat} (ht : free ow t) (htn : t <= c.nt) {f : FuncId} {bs as : List AVal} {args : Array Value} (hsz : args.size = bs.length)
  (hr : ∀ (i : Nat) (v : Value) (x : AVal), args[i]? = some v -> bs[i]? = some x -> RepV w.heap S ow ⟨c.nt + 1, []⟩ v x) {lend : Bool} {Post : AVal -> AVal -> Prop} (hv : VCalls c.g f as none Post)
  (hs : snaps (fun _ => !lend) e bs = some as) {K : AVal -> Env -> Prop} (h : ∀ y x', Post y x' -> (lend = true -> closedA y = true) /\ K y e) :
  Gives c.g.P f args w fun v w1 => OutC c w0 S0 o0 cargs a w true t ow K v w1 := by
 obtain ⟨hl, hg⟩ := snaps_get hs
 have key := hv w (fun b => S b \/ (lend = true /\ ow b ≠ none)) (fun _ => none) args (hsz.trans hl.symm)
  ⟨fun b m h => (by cases h), fun b b' m h => (by cases h), fun b m h => (by cases h), fun b hb => ⟨rfl, by
   rcases hb with hb | ⟨_, hb⟩
   ·exact (s.wo.sh b hb).2
   ·obtain ⟨m, hm⟩ := Option.ne_none_iff_exists'.1 hb
    exact (s.wo.lt b m hm).1⟩, s.wo.gl, s.wo.ngs⟩ (fun b l h => (by cases h)) (fun i v y h1 h2 => by
   obtain ⟨x, hx⟩ : ∃ x, bs[i]? = some x := ⟨_, List.getElem?_eq_getElem (by rw [<- hl]; exact (List.getElem?_eq_some_iff.1 h2).1)⟩
   exact s.snapV (fun b h => .inl h) (fun l b q hb ho => .inr ⟨by simpa using hb, by rw [ho]; simp⟩) (hr i v x h1 hx) (hg i x y hx h2) _ _)
 refine key.mono ?_
 rintro v w1 ⟨y, x', S', o', hp, hwo, hfr, hro, hry, hny, _⟩
 obtain ⟨hc, hK⟩ := h y x' hp
 have old : ∀ b m, ow b = some m -> o' b = none /\ w1.heap[b]? = w.heap[b]? := fun b m hm => hfr.old b (s.wo.lt b m hm).1 rfl
 have hback : ∀ b m, ow b = some m -> backO o' as.length t ow b = some m := fun b m hm => by simp [backO, (old b m hm).1, hm]
 have hoS : ∀ b, S b -> o' b = none /\ w1.heap[b]? = w.heap[b]? := fun b hb => hfr.old b (s.wo.sh b hb).2 rfl
 have hcase : ∀ b m, backO o' as.length t ow b = some m -> (∃ p, o' b = some ⟨as.length, p⟩ /\ m = ⟨t, p⟩) \/ (o' b = none /\ ow b = some m) := fun b m hm => by
  unfold backO at hm
  split at hm
  ·rename_i m' hm'
   split at hm
   ·rename_i hn
    cases hm
    refine .inl ⟨m'.p, ?_, rfl⟩
    rw [hm', <- hn]
   ·cases hm
  ·rename_i hn
   exact .inr ⟨hn, hm⟩
 have wo2 : Wo c.g c.nt w1 (fun b => S' b /\ ow b = none) (backO o' as.length t ow) := by
  refine ⟨fun b m hm => ?_, fun b b' m hm hm' => ?_, fun b m hm => ?_, fun b hb => ?_, hwo.gl, hwo.ngs⟩
  ·rcases hcase b m hm with ⟨p, _, rfl⟩ | ⟨_, h⟩
   ·exact htn
   ·exact s.wo.rt b m h
  ·rcases hcase b m hm with ⟨p, h1, rfl⟩ | ⟨_, h1⟩ <;> rcases hcase b' _ hm' with ⟨p', h2, h3⟩ | ⟨_, h2⟩
   ·cases h3
    exact hwo.inj _ _ _ h1 h2
   ·exact absurd rfl (ht b' _ h2)
   ·exact absurd (by rw [h3]) (ht b _ h1)
   ·exact s.wo.inj _ _ _ h1 h2
  ·rcases hcase b m hm with ⟨p, h1, rfl⟩ | ⟨_, h1⟩
   ·exact hwo.lt b _ h1
   ·have := s.wo.lt b m h1
    have := hfr.size
    exact ⟨by omega, (s.wo.lt b m h1).2⟩
  ·have := hwo.sh b hb.1
   exact ⟨by simp [backO, this.1, hb.2], this.2⟩
 have fr2 : Fr w0 S0 o0 w1 (fun b => S' b /\ ow b = none) (backO o' as.length t ow) := by
  refine ⟨hfr.os.trans s.fr.os, hfr.tape.trans s.fr.tape, hfr.output.trans s.fr.output, Nat.le_trans s.fr.size hfr.size, fun b h1 h2 => ?_, fun b hb => ?_, fun b hb => ?_, fun b hb => ?_⟩
  ·obtain ⟨h3, h4⟩ := s.fr.old b h1 h2
   obtain ⟨h5, h6⟩ := hfr.old b (Nat.lt_of_lt_of_le h1 s.fr.size) rfl
   exact ⟨by simp [backO, h5, h3], h6.trans h4⟩
  ·have := s.fr.grow b hb
   exact ⟨hfr.grow b (.inl this), (s.wo.sh b this).1⟩
  ·rcases hfr.only b hb.1 with (h1 | ⟨_, h1⟩) | h1 | h1
   ·exact s.fr.only b h1
   ·exact absurd hb.2 h1
   ·exact .inr (.inl (Nat.le_trans s.fr.size h1))
   ·exact absurd rfl h1
  ·exact (s.fr.shp b hb).trans (hfr.shp b (Nat.lt_of_lt_of_le hb s.fr.size))
 have s2 : St c w0 S0 o0 cargs e a w1 (fun b => S' b /\ ow b = none) (backO o' as.length t ow) := by
  refine s.world (fun _ => false) (fun _ => False) wo2 fr2 (fun b hb => ⟨⟨hfr.grow b (.inl hb), (s.wo.sh b hb).1⟩, (hoS b hb).2⟩) (fun b m hm _ => ⟨hback b m hm, .of_eq (old b m hm).2⟩)
   (fun r _ b p hm => ⟨hback b _ hm, (old b _ hm).2⟩) (fun r h => h.elim) (fun r _ => (killP_false _).symm) id
 have ry : RepV w1.heap (fun b => S' b /\ ow b = none) (backO o' as.length t ow) ⟨t, []⟩ v y := by
  have r1 : RepV w1.heap (fun b => S' b /\ ow b = none) o' ⟨as.length, []⟩ v y := by
   cases lend with
   | true => exact hry.closed (hc rfl)
   | false =>
    have := hry.move (S' := fun b => S' b /\ ow b = none) (h' := w1.heap) (o' := o') (fun _ => false) (fun b hb => ⟨⟨hb, by
     rcases hfr.only b hb with (h1 | ⟨h1, _⟩) | h1 | h1
     ·exact (s.wo.sh b h1).1
     ·cases h1
     ·cases ho : ow b with
      | none => rfl
      | some m => have := (s.wo.lt b m ho).1; omega
     ·exact absurd rfl h1⟩, rfl⟩) (fun b m hb _ => ⟨hb, .of_eq rfl⟩) ⟨as.length, []⟩ fun b q hb => ⟨hb, rfl⟩
    rwa [killP_false] at this
  have := r1.move (S' := fun b => S' b /\ ow b = none) (h' := w1.heap) (o' := backO o' as.length t ow) (fun _ => true) (fun b hb => ⟨hb, rfl⟩) (fun b m hb hk => by cases hk) ⟨t, []⟩ fun b q hb => ⟨by
   simp only [Loc.ext, List.nil_append] at hb ⊢
   simp [backO, hb], rfl⟩
  rwa [killP_noRef _ _ hny] at this
 refine ⟨y, e, _, _, hK, s2, ry, fun b m hm => ?_, fun _ b hb => (hfr.old b hb rfl).2⟩
 rcases hcase b m hm with ⟨p, _, rfl⟩ | ⟨_, h⟩
 ·exact .inr rfl
 ·exact .inl ⟨b, m, h, rfl⟩
def lentO (l : Loc) (i : Nat) (ow : Own) : Own := fun b => match ow b with
 | none => none
 | some m => if m = l \/ (m.r = (l.idx 0).r /\ (l.idx 0).p <+: m.p) then some ⟨i, m.p.drop l.p.length⟩ else none
theorem call_frz (s : St c w0 S0 o0 cargs e a w S ow) {t : Nat} (ht : free ow t) (htn : t <= c.nt) {f : FuncId} {bs as : List AVal} {args : Array Value} (hsz : args.size = bs.length)
  (hr : ∀ (i : Nat) (v : Value) (x : AVal), args[i]? = some v -> bs[i]? = some x -> RepV w.heap S ow ⟨c.nt + 1, []⟩ v x) {Post : AVal -> AVal -> Prop} (hv : VCalls c.g f as none Post) {rs : List Nat}
  (hn : ∀ r, rs.contains r = true -> noRef (e r) = true) (hs : snaps (fun l => !rs.contains l.r) e bs = some as) {K : AVal -> Env -> Prop} (h : ∀ y x', Post y x' -> K y (frzE rs e)) :
  Gives c.g.P f args w fun v w1 => OutC c w0 S0 o0 cargs a w true t ow K v w1 := by
 obtain ⟨hl, hg⟩ := snaps_get hs
 have s1 := s.freeze rs hn
 refine (call_none s1 (t := t) (fun b m hb => ht b m (frzO_eq hb).1) htn (bs := as) (hsz.trans hl.symm) (fun i v y h1 h2 => ?_) hv (lend := false) (snaps_idem bs hs) (K := K) (fun y x' hp => ⟨fun hf => absurd hf (by simp), h y x' hp⟩)).mono ?_
 ·obtain ⟨x, hx⟩ : ∃ x, bs[i]? = some x := ⟨_, List.getElem?_eq_getElem (by rw [<- hl]; exact (List.getElem?_eq_some_iff.1 h2).1)⟩
  exact s.snapV (fun b h => .inl h) (fun l b q hb ho => .inr ⟨_, ho, by show rs.contains l.r = true; simpa using hb⟩) (hr i v x h1 hx) (hg i x y hx h2) _ _
 ·rintro v w1 ⟨x, e1, S1, o1, h1, h2, h3, h4, h5⟩
  refine ⟨x, e1, S1, o1, h1, h2, h3, fun b m hb => ?_, h5⟩
  rcases h4 b m hb with ⟨b', m', h6, h7⟩ | h6
  ·exact .inl ⟨b', m', (frzO_eq h6).1, h7⟩
  ·exact .inr h6
def backL (o' : Own) (n t : Nat) (l : Loc) (ow1 : Own) : Own := fun b => match o' b with
 | some m => if m.r = n then some ⟨t, m.p⟩ else if m.p = [] \/ [Step.idx 0] <+: m.p then some (l.ext m.p) else none
 | none => ow1 b
theorem lentO_some {l : Loc} {i b : Nat} {m : Loc} (h : lentO l i ow b = some m) : ∃ q, ow b = some (l.ext q) /\ m = ⟨i, q⟩ /\ (q = [] \/ [Step.idx 0] <+: q) := by
 unfold lentO at h
 split at h
 ·cases h
 ·rename_i m' hm'
  split at h
  ·rename_i hc
   cases h
   rcases hc with rfl | ⟨h1, q, h2⟩
   ·exact ⟨[], by rw [hm', Loc.ext_nil], by simp, .inl rfl⟩
   ·refine ⟨.idx 0 :: q, ?_, ?_, .inr ⟨q, rfl⟩⟩
    ·rw [hm']
     cases m'
     simp only [Loc.idx] at h1 h2
     simp [Loc.ext, <- h1, <- h2]
    ·simp only [Loc.idx] at h2
     rw [<- h2]
     simp
  ·cases h
theorem lentO_none {l : Loc} {i b : Nat} {m : Loc} (h : ow b = some m) (hn : ¬ (m.r = l.r /\ l.p <+: m.p)) : lentO l i ow b = none := by
 unfold lentO
 rw [h]
 simp only
 rw [if_neg]
 rintro (rfl | ⟨h1, h2⟩)
 ·exact hn ⟨rfl, List.prefix_refl _⟩
 ·exact hn ⟨h1, List.IsPrefix.trans (List.prefix_append _ _) h2⟩
theorem lentO_of {l : Loc} {i b : Nat} {q : List Step} (h : ow b = some (l.ext q)) (hq : q = [] \/ [Step.idx 0] <+: q) : lentO l i ow b = some ⟨i, q⟩ := by
 unfold lentO
 rw [h]
 simp only
 rw [if_pos]
 ·simp [Loc.ext]
 ·rcases hq with rfl | ⟨q', rfl⟩
  ·exact .inl (Loc.ext_nil _)
  ·exact .inr ⟨rfl, q', by simp [Loc.ext, Loc.idx]⟩
theorem getP_killP_some {d : Loc -> Bool} : ∀ {p : List Step} {x y : AVal}, getP p x = some y -> ∃ y', getP p (killP d x) = some y'
 | [], x, y, h => ⟨_, rfl⟩
 | .fld k :: p, x, y, h => by
  cases x <;> simp only [getP] at h <;> try (cases h; done)
  all_goals
   obtain ⟨z, h1, h2⟩ := Option.bind_eq_some_iff.1 h
   obtain ⟨y', h3⟩ := getP_killP_some (d := d) h2
   exact ⟨y', by simp [killP, getP, killPs_map, h1, h3]⟩
 | .idx i :: p, x, y, h => by
  cases x <;> try (cases i <;> simp [getP] at h; done)
  case lst own sz xs => exact ⟨y, by simpa only [killP] using h⟩
  case ptr own x =>
   cases i with
   | succ i => simp [getP] at h
   | zero =>
    cases own with
    | false => exact ⟨y, by simpa only [killP] using h⟩
    | true =>
     simp only [getP] at h
     obtain ⟨y', h3⟩ := getP_killP_some (d := d) h
     exact ⟨y', by simpa only [killP, getP] using h3⟩
theorem getP_putP_some : ∀ {p : List Step} {x y z : AVal}, getP p x = some y -> getP p (putP p z x) = some z
 | [], x, y, z, h => rfl
 | .fld k :: p, x, y, z, h => by
  cases x <;> simp only [getP] at h <;> try (cases h; done)
  all_goals
   obtain ⟨u, h1, h2⟩ := Option.bind_eq_some_iff.1 h
   have h3 := getP_putP_some (z := z) h2
   simp [putP, getP, h1, h3]
 | .idx i :: p, x, y, z, h => by
  cases x <;> try (cases i <;> simp [getP] at h; done)
  case lst own sz xs =>
   simp only [getP] at h
   obtain ⟨u, h1, h2⟩ := Option.bind_eq_some_iff.1 h
   have h3 := getP_putP_some (z := z) h2
   simp [putP, getP, h1, h3]
  case ptr own x =>
   cases i with
   | succ i => simp [getP] at h
   | zero =>
    simp only [getP] at h
    have h3 := getP_putP_some (z := z) h
    simpa only [putP, getP] using h3
theorem call_some (s : St c w0 S0 o0 cargs e a w S ow) {t : Nat} (ht : free ow t) (htn : t <= c.nt) {f : FuncId} {bs as0 : List AVal} {args : Array Value} (hsz : args.size = bs.length)
  (hr : ∀ (i : Nat) (v : Value) (x : AVal), args[i]? = some v -> bs[i]? = some x -> RepV w.heap S ow ⟨c.nt + 1, []⟩ v x) {lend : Bool} {Post : AVal -> AVal -> Prop} {i : Nat} {l : Loc} {x : AVal}
  (hv : VCalls c.g f (as0.set i (.ptr true x)) (some i) Post) (hbi : bs[i]? = some (.adr l 0 [] 0)) (hgx : getE e l = some (.ptr true x)) (hnx : noRef x = true)
  (hs : snaps (fun l' => !lend || near l l') e (bs.set i .undef) = some as0) {K : AVal -> Env -> Prop}
  (h : ∀ y x', Post y x' -> (lend = true -> closedA y = true /\ closedA x' = true) /\ K y (setAt0 l 0 [] x' (setAt l 0 [] (killP (below (l.idx 0)) (blank x)) (below (l.idx 0)) e))) :
  Gives c.g.P f args w fun v w1 => OutC c w0 S0 o0 cargs a w false t ow K v w1 := by
 obtain ⟨hl, hg⟩ := snaps_get hs
 rw [List.length_set] at hl
 have hib : i < bs.length := (List.getElem?_eq_some_iff.1 hbi).1
 obtain ⟨cn, rn⟩ := s.nodeRep hgx rfl
 obtain ⟨bl, cur, et, fr, rfl, hbl, hol, hfrl, rx⟩ := rn.ptr_inv
 have hltr : l.r ≠ t := ht bl l hol
 have hSc : ∀ b, (S b \/ (lend = true /\ ∃ m, ow b = some m /\ ¬ (m.r = l.r /\ l.p <+: m.p))) -> lentO l i ow b = none /\ b < w.heap.size := fun b hb => by
  rcases hb with hb | ⟨_, m, hm, hn⟩
  ·exact ⟨by simp [lentO, (s.wo.sh b hb).1], (s.wo.sh b hb).2⟩
  ·exact ⟨lentO_none hm hn, (s.wo.lt b m hm).1⟩
 have hlen : (as0.set i (.ptr true x)).length = bs.length := by rw [List.length_set, hl]
 have wo1 : Wo c.g (as0.set i (.ptr true x)).length w (fun b => S b \/ (lend = true /\ ∃ m, ow b = some m /\ ¬ (m.r = l.r /\ l.p <+: m.p))) (lentO l i ow) :=
  ⟨fun b m hm => by
   obtain ⟨q, _, rfl, _⟩ := lentO_some hm
   simp only [hlen]
   omega, fun b b' m hm hm' => by
   obtain ⟨q, h1, h2, _⟩ := lentO_some hm
   obtain ⟨q', h3, h4, _⟩ := lentO_some hm'
   rw [h2] at h4
   cases h4
   exact s.wo.inj _ _ _ h1 h3, fun b m hm => by
   obtain ⟨q, h1, _⟩ := lentO_some hm
   exact s.wo.lt b _ h1, hSc, s.wo.gl, s.wo.ngs⟩
 have key := hv w _ (lentO l i ow) args (hsz.trans hlen.symm) wo1 (fun b m hm => by
   obtain ⟨q, _, rfl, _⟩ := lentO_some hm
   exact ⟨rfl, by rw [hlen]; exact hib⟩) (fun j v y h1 h2 => by
   by_cases hj : j = i
   ·subst hj
    rw [List.getElem?_set_self (by omega)] at h2
    cases h2
    obtain ⟨b', cur', t', fr', hv', hb', ho'⟩ := ((hr j v _ h1 hbi).one (by simp) rfl (by simp)).adr_inv
    simp only [List.cons.injEq, and_true] at hv'
    obtain rfl := s.wo.inj _ _ _ hol ho'
    subst hv'
    have h3 := rx.move (S' := fun b => S b \/ (lend = true /\ ∃ m, ow b = some m /\ ¬ (m.r = l.r /\ l.p <+: m.p))) (h' := w.heap) (o' := lentO l j ow) (fun _ => true) (fun b hb => ⟨.inl hb, rfl⟩) (fun b m hb hk => by cases hk) ((⟨j, []⟩ : Loc).idx 0)
     (fun b q hb => ⟨by
      rw [Loc.idx_ext] at hb ⊢
      exact lentO_of hb (.inr ⟨q, rfl⟩), rfl⟩)
    rw [killP_noRef _ _ hnx] at h3
    exact .mk rfl rfl (.ptr hbl (lentO_of (q := []) (by rw [Loc.ext_nil]; exact hol) (.inl rfl)) hfrl h3)
   ·rw [List.getElem?_set_ne (Ne.symm hj)] at h2
    obtain ⟨x1, hx1⟩ : ∃ x1, bs[j]? = some x1 := ⟨_, List.getElem?_eq_getElem (by rw [<- hl]; exact (List.getElem?_eq_some_iff.1 h2).1)⟩
    exact s.snapV (fun b h => .inl h) (fun l' b q hb ho => by
     simp only [Bool.or_eq_false_iff, Bool.not_eq_false'] at hb
     exact .inr ⟨hb.1, _, ho, near_of hb.2 q⟩) (hr j v x1 h1 hx1) (hg j x1 y (by rw [List.getElem?_set_ne (Ne.symm hj)]; exact hx1) h2) _ _)
 refine key.mono ?_
 rintro v w1 ⟨y, x', S', o', hp, hwo, hfr, hro, hry, hny, hrx⟩
 obtain ⟨hc, hK⟩ := h y x' hp
 rw [hlen] at hwo hro hry
 obtain ⟨va, hva⟩ : ∃ va, args[i]? = some va := ⟨_, Array.getElem?_eq_getElem (by rw [hsz]; exact hib)⟩
 obtain ⟨hrx, hnx'⟩ := hrx i va rfl hva
 have hvl : va = .pointer (some ⟨bl, 0, none⟩) := by
  obtain ⟨b', cur', t', fr', hv', hb', ho'⟩ := ((hr i va _ hva hbi).one (by simp) rfl (by simp)).adr_inv
  simp only [List.cons.injEq, and_true] at hv'
  obtain rfl := s.wo.inj _ _ _ hol ho'
  exact hv'
 obtain ⟨bl', cur', et', fr', hv', hbl', hol', hfrl', rx'⟩ := (hrx.one (by simp) rfl (by simp)).ptr_inv
 rw [hvl] at hv'
 simp only [List.cons.injEq, Value.pointer.injEq, Option.some.injEq, Addr.mk.injEq, and_true] at hv'
 subst hv'
 have s1 := s.dropAt hgx (i := 0) (fs := []) (off := 0) (y := x) (by simp [nodeAt, getF]) hol ⟨.inr rfl, .inr ⟨noRef_killP _ _ (noRef_blank x hnx), hnx⟩⟩
 simp only [Loc.flds, List.map_nil, Loc.ext_nil] at s1
 have hflds : (l.idx 0).flds [] = l.idx 0 := by simp [Loc.flds, Loc.ext_nil]
 have hol1 : dropO ow (l.idx 0) bl = some l := dropO_ne hol fun ⟨_, h⟩ => by
  have := h.length_le
  simp only [Loc.idx, List.length_append, List.length_cons, List.length_nil] at this
  omega
 have ow1_o1 : ∀ b m, dropO ow (l.idx 0) b = some m -> m ≠ l -> lentO l i ow b = none := fun b m hm hne => by
  obtain ⟨h1, h2⟩ := dropO_eq hm
  unfold lentO
  rw [h1]
  simp only
  rw [if_neg]
  rintro (h3 | h3)
  ·exact hne h3
  ·exact h2 h3
 have old : ∀ b m, dropO ow (l.idx 0) b = some m -> m ≠ l -> o' b = none /\ w1.heap[b]? = w.heap[b]? := fun b m hm hne => hfr.old b (s1.wo.lt b m hm).1 (ow1_o1 b m hm hne)
 have hoS : ∀ b, S b -> o' b = none /\ w1.heap[b]? = w.heap[b]? := fun b hb => hfr.old b (s.wo.sh b hb).2 (by simp [lentO, (s.wo.sh b hb).1])
 have hcase : ∀ b m, backL o' bs.length t l (dropO ow (l.idx 0)) b = some m -> (∃ p, o' b = some ⟨bs.length, p⟩ /\ m = ⟨t, p⟩) \/ (∃ p, o' b = some ⟨i, p⟩ /\ m = l.ext p /\ (p = [] \/ [Step.idx 0] <+: p)) \/ (o' b = none /\ dropO ow (l.idx 0) b = some m) := fun b m hm => by
  unfold backL at hm
  split at hm
  ·rename_i m' hm'
   split at hm
   ·rename_i hn
    cases hm
    refine .inl ⟨m'.p, ?_, rfl⟩
    rw [hm', <- hn]
   ·rename_i hn
    split at hm
    ·rename_i hq
     cases hm
     refine .inr (.inl ⟨m'.p, ?_, rfl, hq⟩)
     rcases hro b m' hm' with h1 | h1
     ·exact absurd h1 hn
     ·rw [hm', Option.some.inj h1]
    ·cases hm
  ·rename_i hn
   exact .inr (.inr ⟨hn, hm⟩)
 have hbackl : backL o' bs.length t l (dropO ow (l.idx 0)) bl = some l := by
  unfold backL
  rw [hol']
  simp only
  rw [if_neg (by omega)]
  simp [Loc.ext_nil]
 have hback : ∀ b m, dropO ow (l.idx 0) b = some m -> backL o' bs.length t l (dropO ow (l.idx 0)) b = some m := fun b m hm => by
  by_cases hne : m = l
  ·subst hne
   obtain rfl := s1.wo.inj _ _ _ hol1 hm
   exact hbackl
  ·unfold backL
   rw [(old b m hm hne).1]
   exact hm
 have wo2 : Wo c.g c.nt w1 (fun b => S' b /\ dropO ow (l.idx 0) b = none) (backL o' bs.length t l (dropO ow (l.idx 0))) := by
  refine ⟨fun b m hm => ?_, fun b b' m hm hm' => ?_, fun b m hm => ?_, fun b hb => ?_, hwo.gl, hwo.ngs⟩
  ·rcases hcase b m hm with ⟨p, _, rfl⟩ | ⟨p, _, rfl, _⟩ | ⟨_, h⟩
   ·exact htn
   ·exact s.wo.rt bl l hol
   ·exact s1.wo.rt b m h
  ·have nodrop : ∀ b p, dropO ow (l.idx 0) b = some (l.ext p) -> o' b = none -> (p = [] \/ [Step.idx 0] <+: p) -> False := fun b p h1 h2 h3 => by
    rcases h3 with rfl | ⟨q, rfl⟩
    ·rw [Loc.ext_nil] at h1
     obtain rfl := s1.wo.inj _ _ _ hol1 h1
     rw [hol'] at h2
     cases h2
    ·exact (dropO_eq h1).2 ⟨rfl, q, by simp [Loc.ext, Loc.idx]⟩
   rcases hcase b m hm with ⟨p, h1, rfl⟩ | ⟨p, h1, rfl, hq⟩ | ⟨hn, h1⟩ <;> rcases hcase b' _ hm' with ⟨p', h2, h3⟩ | ⟨p', h2, h3, hq'⟩ | ⟨hn', h2⟩
   ·cases h3
    exact hwo.inj _ _ _ h1 h2
   ·exact absurd (congrArg Loc.r h3).symm hltr
   ·exact absurd rfl (ht b' _ (dropO_eq h2).1)
   ·exact absurd (congrArg Loc.r h3) hltr
   ·rw [<- Loc.ext_inj h3] at h2
    exact hwo.inj _ _ _ h1 h2
   ·exact (nodrop b' p h2 hn' hq).elim
   ·exact absurd (by rw [h3]) (ht b _ (dropO_eq h1).1)
   ·exact (nodrop b p' (h3 ▸ h1) hn hq').elim
   ·exact s1.wo.inj _ _ _ h1 h2
  ·rcases hcase b m hm with ⟨p, h1, rfl⟩ | ⟨p, h1, rfl, _⟩ | ⟨_, h1⟩
   ·exact hwo.lt b _ h1
   ·exact hwo.lt b _ h1
   ·have := s1.wo.lt b m h1
    have := hfr.size
    exact ⟨by omega, (s1.wo.lt b m h1).2⟩
  ·have := hwo.sh b hb.1
   exact ⟨by simp [backL, this.1, hb.2], this.2⟩
 have fr2 : Fr w0 S0 o0 w1 (fun b => S' b /\ dropO ow (l.idx 0) b = none) (backL o' bs.length t l (dropO ow (l.idx 0))) := by
  refine ⟨hfr.os.trans s.fr.os, hfr.tape.trans s.fr.tape, hfr.output.trans s.fr.output, Nat.le_trans s.fr.size hfr.size, fun b h1 h2 => ?_, fun b hb => ?_, fun b hb => ?_, fun b hb => ?_⟩
  ·obtain ⟨h3, h4⟩ := s.fr.old b h1 h2
   obtain ⟨h5, h6⟩ := hfr.old b (Nat.lt_of_lt_of_le h1 s.fr.size) (by simp [lentO, h3])
   exact ⟨by simp [backL, h5, dropO, h3], h6.trans h4⟩
  ·have := s.fr.grow b hb
   exact ⟨hfr.grow b (.inl this), by simp [dropO, (s.wo.sh b this).1]⟩
  ·rcases hfr.only b hb.1 with (h1 | ⟨_, m, h1, h3⟩) | h1 | h1
   ·exact s.fr.only b h1
   ·exact absurd (dropO_ne (D := l.idx 0) h1 fun ⟨h4, h5⟩ => h3 ⟨h4, List.IsPrefix.trans (List.prefix_append _ _) h5⟩) (by rw [hb.2]; simp)
   ·exact .inr (.inl (Nat.le_trans s.fr.size h1))
   ·by_cases hlt : b < w0.heap.size
    ·refine .inr (.inr fun h3 => h1 ?_)
     simp [lentO, (s.fr.old b hlt h3).1]
    ·exact .inr (.inl (by omega))
  ·exact (s.fr.shp b hb).trans (hfr.shp b (Nat.lt_of_lt_of_le hb s.fr.size))
 have hcl : ∀ z, (lend = true -> closedA z = true) -> ∀ l1 v1, RepV w1.heap S' o' l1 v1 z -> RepV w1.heap (fun b => S' b /\ dropO ow (l.idx 0) b = none) o' l1 v1 z := fun z hz l1 v1 rz => by
  cases lend with
  | true => exact rz.closed (hz rfl)
  | false =>
   have := rz.move (S' := fun b => S' b /\ dropO ow (l.idx 0) b = none) (h' := w1.heap) (o' := o') (fun _ => false) (fun b hb => ⟨⟨hb, by
    cases ho : dropO ow (l.idx 0) b with
    | none => rfl
    | some m =>
     exfalso
     have h9 := s1.wo.lt b m ho
     rcases hfr.only b hb with (h1 | ⟨h1, _⟩) | h1 | h1
     ·have := (s1.wo.sh b h1).1
      rw [ho] at this
      cases this
     ·cases h1
     ·omega
     ·by_cases hne : m = l
      ·subst hne
       obtain rfl := s1.wo.inj _ _ _ hol1 ho
       have := (hwo.sh bl hb).1
       rw [hol'] at this
       cases this
      ·exact h1 (ow1_o1 b m ho hne)⟩, rfl⟩) (fun b m hb _ => ⟨hb, .of_eq rfl⟩) l1 fun b q hb => ⟨hb, rfl⟩
   rwa [killP_false] at this
 have ry : RepV w1.heap (fun b => S' b /\ dropO ow (l.idx 0) b = none) (backL o' bs.length t l (dropO ow (l.idx 0))) ⟨t, []⟩ v y := by
  have := (hcl y (fun h => (hc h).1) _ _ hry).move (S' := fun b => S' b /\ dropO ow (l.idx 0) b = none) (h' := w1.heap) (o' := backL o' bs.length t l (dropO ow (l.idx 0))) (fun _ => true) (fun b hb => ⟨hb, rfl⟩) (fun b m hb hk => by cases hk) ⟨t, []⟩ fun b q hb => ⟨by
   simp only [Loc.ext, List.nil_append] at hb ⊢
   simp [backL, hb], rfl⟩
  rwa [killP_noRef _ _ hny] at this
 have rx2 : Rep w1.heap (fun b => S' b /\ dropO ow (l.idx 0) b = none) (backL o' bs.length t l (dropO ow (l.idx 0))) (l.idx 0) cur'.toList x' := by
  obtain ⟨b9, c9, e9, f9, h9, hb9, ho9, _, r9⟩ := ((hcl _ (fun h => by simp only [closedA, Bool.true_and]; exact (hc h).2) _ _ hrx).one (by simp) rfl (by simp)).ptr_inv
  obtain rfl := hwo.inj _ _ _ hol' ho9
  rw [hbl'] at hb9
  cases hb9
  have := r9.move (S' := fun b => S' b /\ dropO ow (l.idx 0) b = none) (h' := w1.heap) (o' := backL o' bs.length t l (dropO ow (l.idx 0))) (fun _ => true) (fun b hb => ⟨hb, rfl⟩) (fun b m hb hk => by cases hk) (l.idx 0) fun b q hb => ⟨by
   rw [Loc.idx_ext] at hb ⊢
   unfold backL
   rw [hb]
   exact (if_neg (show ¬ i = bs.length by omega)).trans (if_pos (Or.inr ⟨q, rfl⟩)), rfl⟩
  rwa [killP_noRef _ _ hnx'] at this
 obtain ⟨cs2, hcs2, hcs3⟩ := (hfr.shp bl (s.wo.lt bl l hol).1).1 cur et fr hbl
 rw [hbl'] at hcs2
 cases hcs2
 have hxw : x'.w = x.w := by rw [<- rx'.len, <- rx.len]; simpa using hcs3
 have hg1 : getE (VS.setAt l 0 [] (killP (below (l.idx 0)) (blank x)) (below (l.idx 0)) e) l = some (.ptr true (killP (below (l.idx 0)) (blank x))) := by
  unfold VS.setAt
  rw [hgx]
  simp only [getE, if_true, nodePut, putF]
  unfold getE at hgx
  obtain ⟨y2, h2⟩ := getP_killP_some (d := below (l.idx 0)) hgx
  exact getP_putP_some h2
 have s2 := s1.setAtG hg1 (i := 0) (fs := []) (off := 0) (y := killP (below (l.idx 0)) (blank x)) (y' := x') (by simp [nodeAt, getF]) (by rw [hxw, killP_w, blank_w]) (.inl hnx')
  (.inr ⟨hnx', noRef_killP _ _ (noRef_blank x hnx)⟩) wo2 fr2 (K := fun _ => false) (fun b hb => ⟨⟨hfr.grow b (.inl hb), (s1.wo.sh b hb).1⟩, (hoS b hb).2⟩) (fun b m hm => .inl (hback b m hm)) (fun b m hm _ => hback b m hm)
  (by rw [hflds]; exact rx2) (fun b m hm hne => (old b m hm hne).2) (fun b cur1 e1 f1 hb1 hc1 => by
   obtain rfl := s1.wo.inj _ _ _ hol1 hb1
   rw [hbl] at hc1
   cases hc1
   refine ⟨cur', hbl', ?_⟩
   unfold spliced
   simp only [List.take_zero, List.nil_append, Nat.zero_add, Array.length_toList]
   rw [List.drop_eq_nil_of_le (by simp; omega), List.append_nil])
 rw [setAt0_eq] at s2
 refine ⟨y, _, _, _, hK, s2, ry, fun b m hm => ?_, fun h => by cases h⟩
 rcases hcase b m hm with ⟨p, _, rfl⟩ | ⟨p, _, rfl, _⟩ | ⟨_, h⟩
 ·exact .inr rfl
 ·exact .inl ⟨bl, l, hol, rfl⟩
 ·exact .inl ⟨b, m, (dropO_eq h).1, rfl⟩
end Go.VS
/- VS: a call of a function that writes into the lists of what it is given. -/
set_option linter.unusedVariables false
set_option linter.unusedSimpArgs false
namespace Go.VS
variable {c : Ctx} {w0 : World} {S0 : Nat -> Prop} {o0 : Own} {cargs : Array Value} {e : Env} {a : Act} {w : World} {S : Nat -> Prop} {ow : Own}
mutual
def topOk : AVal -> Bool
 | .lit (.int _ _) => true
 | .lit (.bool _) => true
 | .lit (.string _) => true
 | .lst true _ _ => true
 | .agg xs => topOks xs
 | _ => false
def topOks : List AVal -> Bool
 | [] => true
 | x :: xs => topOk x && topOks xs
end
mutual
def hasOwn : AVal -> Bool
 | .lst true _ _ => true
 | .agg xs => hasOwns xs
 | _ => false
def hasOwns : List AVal -> Bool
 | [] => false
 | x :: xs => hasOwn x || hasOwns xs
end
theorem topOks_get : ∀ {xs : List AVal}, topOks xs = true -> ∀ {i : Nat} {x : AVal}, xs[i]? = some x -> topOk x = true
 | [], _, i, x, h => by simp at h
 | y :: ys, hc, 0, x, h => by
  simp only [topOks, Bool.and_eq_true] at hc
  simp only [List.getElem?_cons_zero, Option.some.injEq] at h
  exact h ▸ hc.1
 | y :: ys, hc, i + 1, x, h => by
  simp only [topOks, Bool.and_eq_true] at hc
  exact topOks_get hc.2 (by simpa using h)
theorem hasOwns_get : ∀ {xs : List AVal}, hasOwns xs = true -> ∃ (i : Nat) (x : AVal), xs[i]? = some x /\ hasOwn x = true
 | [], h => by simp [hasOwns] at h
 | y :: ys, h => by
  simp only [hasOwns, Bool.or_eq_true] at h
  rcases h with h | h
  ·exact ⟨0, y, rfl, h⟩
  ·obtain ⟨i, x, h1, h2⟩ := hasOwns_get h
   exact ⟨i + 1, x, by simpa using h1, h2⟩
theorem RepS.not_hasOwn {h : Array Obj} {S : Nat -> Prop} {cs : List Value} {x : AVal} (r : RepS h S cs x) : hasOwn x = false := by
 induction r with
 | @agg css xs a _ ih =>
  cases hh : hasOwn (.agg xs) with
  | false => rfl
  | true =>
   simp only [hasOwn] at hh
   obtain ⟨i, x, h1, h2⟩ := hasOwns_get hh
   have hi := (List.getElem?_eq_some_iff.1 h1).1
   rw [<- a] at hi
   rw [ih i _ x (List.getElem?_eq_getElem hi) h1] at h2
   cases h2
 | _ => rfl
theorem Rep.deepA {h h' : Array Obj} {S S' : Nat -> Prop} {o o' : Nat -> Option Loc} {d : Loc -> Bool} : ∀ {p : List Step} {l : Loc} {cs : List Value} {x : AVal}, Rep h S o l cs x -> ∀ {y y' : AVal}, getP p x = some y -> hasOwn y = true →
  (noRef y' = true \/ viaLst p x = false) -> (∀ c, Rep h S o (l.ext p) c y -> Rep h' S' o' (l.ext p) c y') -> Kept h h' S S' o o' d l p -> Rep h' S' o' l cs (putP p y' (killP d x))
 | [], l, cs, x, r, y, y', hg, ho, hn, hy, k => by
  simp only [getP, Option.some.injEq] at hg
  subst hg
  rw [Loc.ext_nil] at hy
  exact hy _ r
 | .fld f :: p, l, cs, x, r, y, y', hg, ho, hn, hy, k => by
  cases x with
  | agg xs =>
   simp only [getP] at hg
   obtain ⟨x, hx, hgx⟩ := Option.bind_eq_some_iff.1 hg
   clear hg
   obtain ⟨css, h1, rfl, h2⟩ := r.agg_inv
   have hk : f < css.length := h1 ▸ (List.getElem?_eq_some_iff.1 hx).1
   simp only [killP, putP]
   refine .agg (by simp [killPs_map, h1]) fun i c z hcc hz => ?_
   rw [killPs_map] at hz
   by_cases hi : i = f
   ·subst hi
    rw [List.getElem?_modify_eq, List.getElem?_map, hx] at hz
    simp at hz
    subst hz
    refine Rep.deepA (h2 i c x hcc hx) hgx ho (by simpa [viaLst, hx] using hn) (fun c hc => ?_) (by have := k.down; rwa [Loc.ext_fld] at this)
    rw [<- Loc.ext_fld, Loc.ext_ext] at hc ⊢
    exact hy c hc
   ·rw [List.getElem?_modify_ne _ _ (Ne.symm hi), List.getElem?_map] at hz
    obtain ⟨z', hz', rfl⟩ := Option.map_eq_some_iff.1 hz
    exact Kept.side k (t := .fld i) (by simp [hi]) (h2 i c z' hcc hz')
  | tup xs =>
   cases r with | shd a => cases a
  | _ => simp [getP] at hg
 | .idx i :: p, l, cs, x, r, y, y', hg, ho, hn, hy, k => by
  cases r with
  | shd a =>
   obtain ⟨c, hc⟩ := a.part hg
   rw [hc.not_hasOwn] at ho
   cases ho
  | lst a b c e f g n m =>
   rename_i b' cap cur t fr sz xs
   simp only [getP] at hg
   obtain ⟨x, hx, hgx⟩ := Option.bind_eq_some_iff.1 hg
   clear hg
   have hb := k.own b' [] (by rw [Loc.ext_nil]; exact b) (by simp)
   rw [Loc.ext_nil] at hb
   have hn' : noRef y' = true := by simpa [viaLst] using hn
   have hlen : (xs.modify i (putP p y')).length = xs.length := by simp
   simp only [killP, putP]
   rw [<- hlen]
   refine .lst (hb.2.trans a) hb.1 c e (by rw [hlen]; exact f) g (noRefs_modify n fun z hz => noRef_putP (noRefs_get n hz) hn') fun j z hz => ?_
   by_cases hi : j = i
   ·subst hi
    rw [List.getElem?_modify_eq, hx] at hz
    simp at hz
    subst hz
    have := Rep.deepA (m j x hx) hgx ho (.inl hn') (fun c hc => ?_) (by have := k.down; rwa [Loc.ext_idx] at this)
    ·rwa [killP_noRef _ _ (noRefs_get n hx)] at this
    ·rw [<- Loc.ext_idx, Loc.ext_ext] at hc ⊢
     exact hy c hc
   ·rw [List.getElem?_modify_ne _ _ (Ne.symm hi)] at hz
    have := Kept.side k (t := .idx j) (by simp [hi]) (m j z hz)
    rwa [killP_noRef _ _ (noRefs_get n hz)] at this
  | ptr a b c e =>
   rename_i b' cur t fr x
   cases i with
   | succ i => simp [getP] at hg
   | zero =>
    simp only [getP] at hg
    have hb := k.own b' [] (by rw [Loc.ext_nil]; exact b) (by simp)
    rw [Loc.ext_nil] at hb
    simp only [killP, putP]
    refine .ptr (hb.2.trans a) hb.1 c (Rep.deepA e hg ho (by simpa [viaLst] using hn) (fun c hc => ?_) (by have := k.down; rwa [Loc.ext_idx] at this))
    rw [<- Loc.ext_idx, Loc.ext_ext] at hc ⊢
    exact hy c hc
  | nil => simp [getP] at hg
  | _ => cases i <;> simp [getP] at hg
theorem Rep.nodeA {h : Array Obj} {S : Nat -> Prop} {o : Nat -> Option Loc} : ∀ {p : List Step} {l : Loc} {cs : List Value} {x : AVal}, Rep h S o l cs x -> ∀ {y : AVal}, getP p x = some y -> hasOwn y = true -> ∃ c, Rep h S o (l.ext p) c y
 | [], l, cs, x, r, y, hg, ho => by
  simp only [getP, Option.some.injEq] at hg
  subst hg
  rw [Loc.ext_nil]
  exact ⟨_, r⟩
 | .fld f :: p, l, cs, x, r, y, hg, ho => by
  cases x with
  | agg xs =>
   simp only [getP] at hg
   obtain ⟨x, hx, hgx⟩ := Option.bind_eq_some_iff.1 hg
   clear hg
   obtain ⟨css, h1, rfl, h2⟩ := r.agg_inv
   have hk : f < css.length := h1 ▸ (List.getElem?_eq_some_iff.1 hx).1
   have := (h2 f _ x (List.getElem?_eq_getElem hk) hx).nodeA hgx ho
   rwa [<- Loc.ext_fld, Loc.ext_ext] at this
  | tup xs => cases r with | shd a => cases a
  | _ => simp [getP] at hg
 | .idx i :: p, l, cs, x, r, y, hg, ho => by
  cases r with
  | shd a =>
   obtain ⟨c, hc⟩ := a.part hg
   rw [hc.not_hasOwn] at ho
   cases ho
  | lst a b c e f g n m =>
   simp only [getP] at hg
   obtain ⟨x, hx, hgx⟩ := Option.bind_eq_some_iff.1 hg
   clear hg
   have := (m i x hx).nodeA hgx ho
   rwa [<- Loc.ext_idx, Loc.ext_ext] at this
  | ptr a b c e =>
   cases i with
   | succ i => simp [getP] at hg
   | zero =>
    simp only [getP] at hg
    have := e.nodeA hg ho
    rwa [<- Loc.ext_idx, Loc.ext_ext] at this
  | nil => simp [getP] at hg
  | _ => cases i <;> simp [getP] at hg
theorem RepV1.deepA {h h' : Array Obj} {S S' : Nat -> Prop} {o o' : Nat -> Option Loc} {d : Loc -> Bool} {p : List Step} {l : Loc} {v : Value} {x : AVal} (r : RepV1 h S o l v x) {y y' : AVal} (hg : getP p x = some y)
  (ho : hasOwn y = true) (hw : isAggA y' = isAggA y) (hn : noRef y' = true \/ viaLst p x = false) (hy : ∀ c, Rep h S o (l.ext p) c y -> Rep h' S' o' (l.ext p) c y') (k : Kept h h' S S' o o' d l p) :
  RepV1 h' S' o' l v (putP p y' (killP d x)) := by
 rcases r with rfl | ⟨r, ha⟩
 ·rw [getP_undef hg] at ho; simp [hasOwn] at ho
 ·refine .inr ⟨r.deepA hg ho hn hy k, ?_⟩
  cases p with
  | nil =>
   simp only [getP, Option.some.injEq] at hg
   subst hg
   rw [putP, hw, <- ha]
  | cons s p =>
   rw [isAggA_putP, isAggA_killP, ha]
theorem RepV.deepA {h h' : Array Obj} {S S' : Nat -> Prop} {o o' : Nat -> Option Loc} {d : Loc -> Bool} {p : List Step} {l : Loc} {v : Value} {x : AVal} (r : RepV h S o l v x) {y y' : AVal} (hg : getP p x = some y)
  (ho : hasOwn y = true) (hw : isAggA y' = isAggA y) (hn : noRef y' = true \/ viaLst p x = false) (hy : ∀ c, Rep h S o (l.ext p) c y -> Rep h' S' o' (l.ext p) c y') (k : Kept h h' S S' o o' d l p) :
  RepV h' S' o' l v (putP p y' (killP d x)) := by
 rcases r with r | ⟨vs, xs, rfl, rfl, hs, hv⟩
 ·exact .inl (r.deepA hg ho hw hn hy k)
 ·cases p with
  | nil => simp only [getP, Option.some.injEq] at hg; subst hg; simp [hasOwn] at ho
  | cons s p =>
   cases s with
   | idx i => cases i <;> simp [getP] at hg
   | fld f =>
    simp only [getP] at hg
    obtain ⟨x, hx, hgx⟩ := Option.bind_eq_some_iff.1 hg
    clear hg
    simp only [killP, putP]
    refine .inr ⟨vs, _, rfl, rfl, by rw [killPs_map]; simpa using hs, fun i u z hu hz => ?_⟩
    rw [killPs_map] at hz
    by_cases hi : i = f
    ·subst hi
     rw [List.getElem?_modify_eq, List.getElem?_map, hx] at hz
     simp at hz
     subst hz
     refine RepV1.deepA (hv i u x hu hx) hgx ho hw (by simpa [viaLst, hx] using hn) (fun c hc => ?_) (by have := k.down; rwa [Loc.ext_fld] at this)
     rw [<- Loc.ext_fld, Loc.ext_ext] at hc ⊢
     exact hy c hc
    ·rw [List.getElem?_modify_ne _ _ (Ne.symm hi), List.getElem?_map] at hz
     obtain ⟨z', hz', rfl⟩ := Option.map_eq_some_iff.1 hz
     refine (hv i u z' hu hz').move d k.shd k.refs _ fun b q hb => ?_
     rw [Loc.fld_ext] at hb ⊢
     exact k.own b _ hb fun hp => hi (by simpa using (List.cons_prefix_cons.1 hp).1.symm)
theorem RepV.nodeA {h : Array Obj} {S : Nat -> Prop} {o : Nat -> Option Loc} {p : List Step} {l : Loc} {v : Value} {x : AVal} (r : RepV h S o l v x) {y : AVal} (hg : getP p x = some y)
  (ho : hasOwn y = true) : ∃ c, Rep h S o (l.ext p) c y := by
 have one : ∀ {p : List Step} {l : Loc} {v : Value} {x : AVal}, RepV1 h S o l v x -> getP p x = some y -> ∃ c, Rep h S o (l.ext p) c y := by
  intro p l v x r hg
  rcases r with rfl | ⟨r, ha⟩
  ·rw [getP_undef hg] at ho; simp [hasOwn] at ho
  ·exact r.nodeA hg ho
 rcases r with r | ⟨vs, xs, rfl, rfl, hs, hv⟩
 ·exact one r hg
 ·cases p with
  | nil => simp only [getP, Option.some.injEq] at hg; subst hg; simp [hasOwn] at ho
  | cons s p =>
   cases s with
   | idx i => cases i <;> simp [getP] at hg
   | fld f =>
    simp only [getP] at hg
    obtain ⟨x, hx, hgx⟩ := Option.bind_eq_some_iff.1 hg
    have hk : f < vs.size := hs ▸ (List.getElem?_eq_some_iff.1 hx).1
    have := one (hv f _ x (Array.getElem?_eq_getElem hk) hx) hgx
    rwa [<- Loc.ext_fld, Loc.ext_ext] at this
def deepQ (q : List Step) : Bool := q.any fun s => match s with | .idx _ => true | .fld _ => false
theorem deepQ_fld {k : Nat} {q : List Step} : deepQ (.fld k :: q) = deepQ q := by simp [deepQ]
theorem deepQ_idx {k : Nat} {q : List Step} : deepQ (.idx k :: q) = true := by simp [deepQ]
def inBlk (cs : List Value) (b : Nat) : Prop := ∃ off n cap, Value.slice (some ⟨b, off, none⟩) n cap ∈ cs
theorem Rep.lit_inv2 {h : Array Obj} {l : Loc} {cs : List Value} {v : Value} (r : Rep h S ow l cs (.lit v)) : cs = [v] /\ litOk v := by
 cases r with
 | shd a => cases a with | lit a => exact ⟨rfl, a⟩
theorem Rep.give {h : Array Obj} {o' : Own} (inj : ∀ b b' m, ow b = some m -> ow b' = some m -> b = b') {l : Loc} {cs : List Value} {x : AVal} (r : Rep h S ow l cs x) : ∀ {l0 l' : Loc} {vs : List Value}, Rep h S ow l0 vs (copyOut l x) -> topOk x = true →
  (∀ b q, ow b = some (l.ext q) -> (deepQ q = true \/ inBlk vs b) -> o' b = some (l'.ext q)) -> Rep h S o' l' vs x := by
 have lits : ∀ {l0 l' : Loc} {vs : List Value} {v : Value}, Rep h S ow l0 vs (.lit v) -> Rep h S o' l' vs (.lit v) := fun r' => by
  obtain ⟨rfl, hv⟩ := r'.lit_inv2
  exact .shd (.lit hv)
 induction r with
 | shd a =>
  intro l0 l' vs r' ht hO
  have key : ∀ {x : AVal} {cs : List Value} {l l0 l' : Loc} {vs : List Value}, RepS h S cs x -> topOk x = true -> Rep h S ow l0 vs (copyOut l x) -> Rep h S o' l' vs x := by
   clear r' ht hO a
   intro x cs l l0 l' vs a
   induction a generalizing l l0 l' vs with
   | agg a _ ih =>
    intro ht r'
    simp only [copyOut] at r'
    obtain ⟨ds, h1, rfl, h2⟩ := r'.agg_inv
    rw [copyOuts_length] at h1
    refine .agg h1 fun i d x hd hx => ?_
    have hi := (List.getElem?_eq_some_iff.1 hx).1
    rw [<- a] at hi
    refine ih i _ x (List.getElem?_eq_getElem hi) hx (topOks_get (by simpa only [topOk] using ht) hx) (l := l.fld (0 + i)) (h2 i d _ hd ?_)
    rw [copyOuts_get, hx]
    rfl
   | lit a => intro ht r'; simp only [copyOut] at r'; exact lits r'
   | _ => intro ht; simp [topOk] at ht
  exact key a ht r'
 | agg a _ ih =>
  intro l0 l' vs r' ht hO
  simp only [copyOut] at r'
  obtain ⟨ds, h1, rfl, h2⟩ := r'.agg_inv
  rw [copyOuts_length] at h1
  refine .agg h1 fun i d x hd hx => ?_
  have hi := (List.getElem?_eq_some_iff.1 hx).1
  rw [<- a] at hi
  refine ih i _ x (List.getElem?_eq_getElem hi) hx (h2 i d (copyOut ((_ : Loc).fld i) x) hd ?_) (topOks_get (by simpa only [topOk] using ht) hx) fun b q hb hq => ?_
  ·rw [copyOuts_get, hx]
   simp
  ·rw [Loc.fld_ext] at hb ⊢
   refine hO b _ hb ?_
   rw [deepQ_fld]
   refine hq.imp id ?_
   rintro ⟨off, n, cap, hm⟩
   exact ⟨off, n, cap, List.mem_flatten.2 ⟨d, List.mem_of_getElem? hd, hm⟩⟩
 | nil =>
  intro l0 l' vs r' ht hO
  simp only [copyOut] at r'
  rcases r'.href_inv with ⟨rfl, _, _⟩ | ⟨b, cap, cur, t, fr, rfl, h1, h2, h3, h4, h5, h6⟩
  ·exact .nil
  ·have := hO b [] (by rw [Loc.ext_nil]; exact h2) (.inr ⟨_, _, _, List.mem_singleton.2 rfl⟩)
   rw [Loc.ext_nil] at this
   simp only [Nat.zero_mul]
   exact .lst (xs := []) h1 this h3 (by simpa using h4) h5 (by omega) rfl fun i x hx => by simp at hx
 | lst a b d e f g k m ih =>
  rename_i l bk cap cur t fr sz xs
  intro l0 l' vs r' ht hO
  simp only [copyOut] at r'
  rcases r'.href_inv with ⟨rfl, _, h0⟩ | ⟨b', cap', cur', t', fr', rfl, h1, h2, h3, h4, h5, h6⟩
  ·have : xs = [] := List.eq_nil_of_length_eq_zero h0
   subst this
   exact .nil
  ·obtain rfl := inj _ _ _ b h2
   rw [a] at h1
   cases h1
   have := hO bk [] (by rw [Loc.ext_nil]; exact b) (.inr ⟨_, _, _, List.mem_singleton.2 rfl⟩)
   rw [Loc.ext_nil] at this
   simp only [Nat.zero_mul]
   refine .lst a this d (by simpa using h4) h5 (by omega) k fun i x hx => ?_
   have := (m i x hx).move (S' := S) (h' := h) (o' := o') (fun _ => true) (fun b hb => ⟨hb, rfl⟩) (fun b m hb hk => by cases hk) (l'.idx i) fun b q hb => ⟨by
    rw [Loc.idx_ext] at hb ⊢
    exact hO b _ hb (.inl deepQ_idx), rfl⟩
   rwa [killP_noRef _ _ (noRefs_get k hx)] at this
 | _ => intro l0 l' vs r' ht; simp [topOk] at ht
theorem cpy_lst {l : Loc} {sz lo n : Nat} {x' : AVal} (h : copyOut l x' = .href l sz lo n) (hn : noRef x' = true) : ∃ xs, x' = .lst true sz xs /\ xs.length = n /\ lo = 0 := by
 cases x' with
 | lst own sz' xs =>
  cases own with
  | true => simp only [copyOut, AVal.href.injEq, true_and] at h; obtain ⟨rfl, rfl, rfl⟩ := h; exact ⟨xs, rfl, rfl, rfl⟩
  | false => simp [copyOut] at h
 | href => simp [noRef] at hn
 | ptr own x => cases own <;> simp [copyOut] at h
 | mp own x => cases own <;> simp [copyOut] at h
 | _ => simp [copyOut] at h
theorem cpy_agg {l : Loc} {ys : List AVal} {x' : AVal} (h : copyOut l x' = .agg ys) : ∃ xs, x' = .agg xs /\ copyOuts l 0 xs = ys := by
 cases x' with
 | agg xs => simp only [copyOut, AVal.agg.injEq] at h; exact ⟨xs, rfl, h⟩
 | lst own sz' xs => cases own <;> simp [copyOut] at h
 | ptr own x => cases own <;> simp [copyOut] at h
 | mp own x => cases own <;> simp [copyOut] at h
 | _ => simp [copyOut] at h
theorem cpy_lit {l : Loc} {v : Value} {x' : AVal} (h : copyOut l x' = .lit v) : x' = .lit v := by
 cases x' with
 | lit u => simpa only [copyOut] using h
 | lst own sz' xs => cases own <;> simp [copyOut] at h
 | ptr own x => cases own <;> simp [copyOut] at h
 | mp own x => cases own <;> simp [copyOut] at h
 | _ => simp [copyOut] at h
theorem noRefs_copy_get {l : Loc} {xs xs' : List AVal} (h : copyOuts l 0 xs' = copyOuts l 0 xs) {i : Nat} {x : AVal} (hx : xs[i]? = some x) : ∃ x', xs'[i]? = some x' /\ copyOut (l.fld i) x' = copyOut (l.fld i) x := by
 have h1 := copyOuts_get l 0 xs' i
 rw [h, copyOuts_get, hx] at h1
 simp only [Option.map_some, Nat.zero_add] at h1
 obtain ⟨x', h2, h3⟩ := Option.map_eq_some_iff.1 h1.symm
 exact ⟨x', h2, h3⟩
theorem cut_alike : ∀ {ds ds2 : List (List Value)}, ds2.length = ds.length -> (∀ (i : Nat) (d d2 : List Value), ds[i]? = some d -> ds2[i]? = some d2 -> d2.length = d.length) -> ds.flatten = ds2.flatten -> ds2 = ds
 | [], ds2, h, _, _ => List.eq_nil_of_length_eq_zero h
 | d :: ds, d2 :: ds2, h, hh, hf => by
  have e0 := hh 0 d d2 rfl rfl
  simp only [List.flatten_cons] at hf
  obtain ⟨e1, e2⟩ := List.append_inj hf e0.symm
  rw [e1, cut_alike (by simpa using h) (fun i a b ha hb => hh (i + 1) a b (by simpa using ha) (by simpa using hb)) e2]
theorem Rep.place {h : Array Obj} {b off n cap : Nat} : ∀ {x : AVal} {l l0 : Loc} {vs : List Value}, topOk x = true -> Rep h S ow l0 vs (copyOut l x) -> Value.slice (some ⟨b, off, none⟩) n cap ∈ vs →
  ∃ q, deepQ q = false /\ ow b = some (l.ext q) /\ ∀ {h' : Array Obj} {S' : Nat -> Prop} {o' : Own} {l' : Loc} {x' : AVal}, Rep h' S' o' l' vs x' -> noRef x' = true -> copyOut l x' = copyOut l x -> o' b = some (l'.ext q) := by
 intro x
 suffices hs : ∀ (k : Nat) (x : AVal), (SizeOf.sizeOf x : Nat) <= k -> ∀ {l l0 : Loc} {vs : List Value}, topOk x = true -> Rep h S ow l0 vs (copyOut l x) -> Value.slice (some ⟨b, off, none⟩) n cap ∈ vs →
   ∃ q, deepQ q = false /\ ow b = some (l.ext q) /\ ∀ {h' : Array Obj} {S' : Nat -> Prop} {o' : Own} {l' : Loc} {x' : AVal}, Rep h' S' o' l' vs x' -> noRef x' = true -> copyOut l x' = copyOut l x -> o' b = some (l'.ext q) from fun {l l0 vs} => hs _ x (Nat.le_refl _)
 intro k
 induction k with
 | zero => intro x hx; cases x <;> simp at hx
 | succ k ihk =>
  intro x hx l l0 vs ht r' hm
  cases x with
  | lit v =>
   simp only [copyOut] at r'
   obtain ⟨rfl, _⟩ := r'.lit_inv2
   simp only [List.mem_singleton] at hm
   subst hm
   simp [topOk] at ht
  | agg ys =>
   simp only [copyOut] at r'
   obtain ⟨es, e1, rfl, e2⟩ := r'.agg_inv
   rw [copyOuts_length] at e1
   obtain ⟨e, he', hm⟩ := List.mem_flatten.1 hm
   obtain ⟨j, hj, rfl⟩ := List.getElem_of_mem he'
   have hy : ys[j]? = some ys[j] := List.getElem?_eq_getElem (by omega)
   have := ihk ys[j] (by
    have := List.sizeOf_lt_of_mem (List.getElem_mem (l := ys) (n := j) (by omega))
    simp only [AVal.agg.sizeOf_spec] at hx
    omega) (l := l.fld j) (topOks_get (by simpa only [topOk] using ht) hy) (e2 j _ _ (List.getElem?_eq_getElem hj) (by rw [copyOuts_get, hy]; simp)) hm
   obtain ⟨q, hq0, hq, hq2⟩ := this
   refine ⟨.fld j :: q, by rw [deepQ_fld]; exact hq0, by rw [Loc.fld_ext] at hq; exact hq, fun {h' S' o' l' x'} r2 hn he => ?_⟩
   simp only [copyOut] at he
   obtain ⟨xs', rfl, hq⟩ := cpy_agg he
   obtain ⟨x1, h3, h4⟩ := noRefs_copy_get hq hy
   obtain ⟨ds2, h1', hd2, h2'⟩ := r2.agg_inv
   have hlen := congrArg List.length hq
   rw [copyOuts_length, copyOuts_length] at hlen
   have hds : ds2 = es := cut_alike (by omega) (fun i d d2 hd hd2 => by
    have hi := (List.getElem?_eq_some_iff.1 hd).1
    have hi1 : i < ys.length := by omega
    obtain ⟨x1, h3, h4⟩ := noRefs_copy_get hq (List.getElem?_eq_getElem hi1)
    rw [(h2' i d2 x1 hd2 h3).len, (e2 i d (copyOut (l.fld i) ys[i]) hd (by rw [copyOuts_get, List.getElem?_eq_getElem hi1]; simp)).len, <- h4, copyOut_w]) hd2
   subst hds
   have := hq2 (h2' j _ x1 (List.getElem?_eq_getElem hj) h3) (noRefs_get (by simpa only [noRef] using hn) h3) h4
   rw [Loc.fld_ext] at this
   exact this
  | lst own sz ys =>
   cases own with
   | false => simp [topOk] at ht
   | true =>
    simp only [copyOut] at r'
    rcases r'.href_inv with ⟨rfl, _, _⟩ | ⟨b', cap', cur', t', fr', rfl, _, h9, _⟩
    ·simp at hm
    ·simp only [List.mem_singleton, Value.slice.injEq, Option.some.injEq, Addr.mk.injEq] at hm
     obtain ⟨⟨rfl, _⟩, _⟩ := hm
     refine ⟨[], rfl, by rw [Loc.ext_nil]; exact h9, fun {h' S' o' l' x'} r2 hn he => ?_⟩
     simp only [copyOut] at he
     obtain ⟨xs', rfl, h0, _⟩ := cpy_lst he hn
     rcases r2.lst_inv with ⟨h8, _⟩ | ⟨b2, cap2, cur2, t2, fr2, h8, k1, k2, _⟩
     ·simp at h8
     ·simp only [List.cons.injEq, Value.slice.injEq, Option.some.injEq, Addr.mk.injEq, and_true] at h8
      obtain ⟨⟨rfl, _⟩, _⟩ := h8
      rw [Loc.ext_nil]
      exact k2
  | _ => simp [topOk] at ht
theorem Rep.back {h h' : Array Obj} {S' S2 : Nat -> Prop} {o' o2 : Own} (inj : ∀ b b' m, ow b = some m -> ow b' = some m -> b = b') (hS : ∀ b, S' b -> S2 b) {l : Loc} {cs : List Value} {x : AVal} (r : Rep h S ow l cs x) :
  ∀ {l0 l' : Loc} {vs : List Value} {x' : AVal}, Rep h S ow l0 vs (copyOut l x) -> topOk x = true -> Rep h' S' o' l' vs x' -> noRef x' = true -> copyOut l x' = copyOut l x →
  (∀ b q, o' b = some (l'.ext q) -> (deepQ q = true \/ inBlk vs b) -> (∃ b' q', ow b' = some (l.ext q')) -> o2 b = some (l.ext q)) -> (∀ b q, ow b = some (l.ext q) -> deepQ q = false -> ¬ inBlk vs b -> o2 b = some (l.ext q) /\ h'[b]? = h[b]?) →
  Rep h' S2 o2 l cs x' := by
 have lits : ∀ {l l0 : Loc} {vs cs : List Value} {v : Value} {x' : AVal}, Rep h S ow l0 vs (.lit v) -> litOk v -> copyOut l x' = copyOut l (.lit v) -> Rep h' S2 o2 l [v] x' := fun {l l0 vs cs v x'} r' hv he => by
  simp only [copyOut] at he
  rw [cpy_lit he]
  exact .shd (.lit hv)
 induction r with
 | shd a =>
  intro l0 l' vs x' r' ht r2 hn he hO hP
  have key : ∀ {x : AVal} {cs : List Value} {l l0 l' : Loc} {vs : List Value} {x' : AVal}, RepS h S cs x -> topOk x = true -> Rep h S ow l0 vs (copyOut l x) -> copyOut l x' = copyOut l x -> Rep h' S2 o2 l cs x' := by
   clear r' ht hO hP a r2 hn he
   intro x cs l l0 l' vs x' a
   induction a generalizing l l0 l' vs x' with
   | agg a _ ih =>
    intro ht r' he
    simp only [copyOut] at he r'
    obtain ⟨xs', rfl, hq⟩ := cpy_agg he
    obtain ⟨ds, h1, rfl, h2⟩ := r'.agg_inv
    rw [copyOuts_length] at h1
    have hlen := congrArg List.length hq
    rw [copyOuts_length, copyOuts_length] at hlen
    refine .agg (a.trans hlen.symm) fun i d x hd hx => ?_
    have hi := (List.getElem?_eq_some_iff.1 hx).1
    rw [hlen] at hi
    obtain ⟨x1, h3, h4⟩ := noRefs_copy_get hq (List.getElem?_eq_getElem hi)
    rw [hx] at h3
    cases h3
    rw [<- h1] at hi
    refine ih i _ _ hd (List.getElem?_eq_getElem (h1 ▸ hi)) (topOks_get (by simpa only [topOk] using ht) (List.getElem?_eq_getElem (h1 ▸ hi))) (l := l.fld i) (l' := l') (h2 i _ _ (List.getElem?_eq_getElem hi) ?_) h4
    rw [copyOuts_get, List.getElem?_eq_getElem (h1 ▸ hi)]
    simp
   | lit a => intro ht r' he; simp only [copyOut] at r'; exact lits (cs := []) r' a (by simpa only [copyOut] using he)
   | _ => intro ht; simp [topOk] at ht
  exact key (l' := l') a ht r' he
 | agg a _ ih =>
  rename_i l css xs _
  intro l0 l' vs x' r' ht r2 hn he hO hP
  simp only [copyOut] at he r'
  obtain ⟨xs', rfl, hq⟩ := cpy_agg he
  obtain ⟨ds, h1, rfl, h2⟩ := r'.agg_inv
  obtain ⟨ds2, h1', hd2, h2'⟩ := r2.agg_inv
  rw [copyOuts_length] at h1
  have hlen := congrArg List.length hq
  rw [copyOuts_length, copyOuts_length] at hlen
  have hds : ds2 = ds := by
   refine cut_alike (by omega) (fun i d d2 hd hd2 => ?_) hd2
   have hi := (List.getElem?_eq_some_iff.1 hd).1
   have hi1 : i < xs.length := by omega
   have hi2 : i < xs'.length := by omega
   obtain ⟨x1, h3, h4⟩ := noRefs_copy_get hq (List.getElem?_eq_getElem hi1)
   rw [(h2' i d2 x1 hd2 h3).len, (h2 i d (copyOut (l.fld i) xs[i]) hd (by rw [copyOuts_get, List.getElem?_eq_getElem hi1]; simp)).len, <- h4, copyOut_w]
  subst hds
  refine .agg (a.trans hlen.symm) fun i d x hd hx => ?_
  have hi := (List.getElem?_eq_some_iff.1 hx).1
  have hi1 : i < xs.length := by omega
  have hi2 : i < ds2.length := by omega
  obtain ⟨x1, h3, h4⟩ := noRefs_copy_get hq (List.getElem?_eq_getElem hi1)
  rw [hx] at h3
  cases h3
  refine ih i _ _ hd (List.getElem?_eq_getElem hi1) (l' := l'.fld i) (h2 i _ _ (List.getElem?_eq_getElem hi2) ?_) (topOks_get (by simpa only [topOk] using ht) (List.getElem?_eq_getElem hi1))
   (h2' i _ x (List.getElem?_eq_getElem hi2) hx) (noRefs_get (by simpa only [noRef] using hn) hx) h4 (fun b q hb hq hex => ?_) fun b q hb hq hm => ?_
  ·rw [copyOuts_get, List.getElem?_eq_getElem hi1]
   simp
  ·rw [Loc.fld_ext] at hb ⊢
   refine hO b _ hb ?_ ?_
   ·rw [deepQ_fld]
    refine hq.imp id ?_
    rintro ⟨off, n, cap, hm⟩
    exact ⟨off, n, cap, List.mem_flatten.2 ⟨_, List.getElem_mem hi2, hm⟩⟩
   ·obtain ⟨b', q', h9⟩ := hex
    exact ⟨b', _, by rw [Loc.fld_ext] at h9; exact h9⟩
  ·rw [Loc.fld_ext] at hb ⊢
   by_cases hin : inBlk ds2.flatten b
   ·-- in another part: then it lies elsewhere
    exfalso
    obtain ⟨off, n, cap, hmm⟩ := hin
    obtain ⟨dj, hj, hmm⟩ := List.mem_flatten.1 hmm
    obtain ⟨j, hj2, rfl⟩ := List.getElem_of_mem hj
    have hj1 : j < xs.length := by omega
    have hrj := h2 j _ (copyOut (l.fld j) xs[j]) (List.getElem?_eq_getElem hj2) (by rw [copyOuts_get, List.getElem?_eq_getElem hj1]; simp)
    obtain ⟨q2, _, hq2, _⟩ := Rep.place (topOks_get (by simpa only [topOk] using ht) (List.getElem?_eq_getElem hj1)) hrj hmm
    rw [Loc.fld_ext] at hq2
    rw [hb] at hq2
    have := Loc.ext_inj (Option.some.inj hq2)
    simp only [List.cons.injEq, Step.fld.injEq] at this
    obtain ⟨rfl, _⟩ := this
    exact hm ⟨off, n, cap, hmm⟩
   ·exact hP b _ hb (by rw [deepQ_fld]; exact hq) hin
 | nil =>
  intro l0 l' vs x' r' ht r2 hn he hO hP
  simp only [copyOut] at he
  obtain ⟨xs', rfl, h0, _⟩ := cpy_lst he hn
  have : xs' = [] := List.eq_nil_of_length_eq_zero h0
  subst this
  exact .nil
 | lst a b d e f g k m ih =>
  rename_i l bk cap cur t fr sz xs
  intro l0 l' vs x' r' ht r2 hn he hO hP
  simp only [copyOut] at he r'
  obtain ⟨xs', rfl, h0, _⟩ := cpy_lst he hn
  rcases r'.href_inv with ⟨rfl, _, h00⟩ | ⟨b', cap', cur', t', fr', rfl, h1, h2, h3, h4, h5, h6⟩
  ·rw [h00] at h0
   have hx : xs = [] := List.eq_nil_of_length_eq_zero h00
   have hx' : xs' = [] := List.eq_nil_of_length_eq_zero h0
   subst hx hx'
   obtain ⟨h7, h8⟩ := hP bk [] (by rw [Loc.ext_nil]; exact b) rfl (by rintro ⟨off, n, cap, hm⟩; simp at hm)
   rw [Loc.ext_nil] at h7
   exact .lst (h8.trans a) h7 d e f g rfl fun i x hx => by simp at hx
  ·obtain rfl := inj _ _ _ b h2
   rw [a] at h1
   cases h1
   rcases r2.lst_inv with ⟨h9, _⟩ | ⟨b2, cap2, cur2, t2, fr2, h9, k1, k2, k3, k4, k5, k6, k7, k8⟩
   ·simp at h9
   ·simp only [List.cons.injEq, Value.slice.injEq, Option.some.injEq, Addr.mk.injEq, and_true] at h9
    obtain ⟨⟨rfl, _⟩, _, rfl⟩ := h9
    have hex : ∃ b' q', ow b' = some (l.ext q') := ⟨bk, [], by rw [Loc.ext_nil]; exact b⟩
    have h7 := hO bk [] (by rw [Loc.ext_nil]; exact k2) (.inr ⟨_, _, _, List.mem_singleton.2 rfl⟩) hex
    rw [Loc.ext_nil] at h7
    rw [<- h0]
    refine .lst k1 h7 k3 (by rw [k4, <- e, h4, Nat.zero_add]) (by omega) g k7 fun i x hx => ?_
    have := (k8 i x hx).move (S' := S2) (h' := h') (o' := o2) (fun _ => true) (fun b hb => ⟨hS b hb, rfl⟩) (fun b m hb hk => by cases hk) (l.idx i) fun b q hb => ⟨by
     rw [Loc.idx_ext] at hb ⊢
     exact hO b _ hb (.inl deepQ_idx) hex, rfl⟩
    rwa [killP_noRef _ _ (noRefs_get k7 hx)] at this
 | _ => intro l0 l' vs x' r' ht; simp [topOk] at ht
def VMut (g : Sys) (f : FuncId) (as : List AVal) (i : Nat) (Post : AVal -> AVal -> Prop) : Prop :=
 ∀ (w : World) (S : Nat -> Prop) (o : Own) (args : Array Value), args.size = as.length -> Wo g as.length w S o -> (∀ b l, o b = some l -> l.r = i /\ i < as.length) →
  (∀ (j : Nat) (v : Value) (x : AVal), args[j]? = some v -> as[j]? = some x -> RepV w.heap S o ⟨j, []⟩ v x) →
  Gives g.P f args w fun v w' => ∃ y x' S' o', Post y x' /\ Wo g as.length w' S' o' /\ Fr w S o w' S' o' /\ (∀ b l, o' b = some l -> l.r = as.length \/ l.r = i) ∧
   RepV w'.heap S' o' ⟨as.length, []⟩ v y /\ noRef y = true /\ (∀ u : Value, args[i]? = some u -> RepV w'.heap S' o' ⟨i, []⟩ u x' /\ noRef x' = true)
theorem VMut.mono {g : Sys} {f : FuncId} {as : List AVal} {i : Nat} {Post Post' : AVal -> AVal -> Prop} (h : VMut g f as i Post) (hp : ∀ y x', Post y x' -> Post' y x') : VMut g f as i Post' := fun w S o args h1 h2 h3 h4 =>
 (h w S o args h1 h2 h3 h4).mono fun v w' ⟨y, x', S', o', a1, a2⟩ => ⟨y, x', S', o', hp _ _ a1, a2⟩
def giveE (l : Loc) (x' : AVal) (e : Env) : Env := fun r => if r = l.r then putP l.p x' (killP (below l) (e r)) else killP (below l) (e r)
def callT (c : Ctx) (qt : Bool) (f : FuncId) (bs : List AVal) (e : Env) (K : AVal -> Env -> Prop) : Prop :=
 qt = false /\ ∃ (i : Nat) (l : Loc) (x : AVal) (as0 : List AVal) (Post : AVal -> AVal -> Prop), l.r < c.nt /\ c.keep.contains l.r = true /\ VMut c.g f (as0.set i x) i Post /\ bs[i]? = some (copyOut l x) /\ getE e l = some x /\ topOk x = true /\ hasOwn x = true /\ noRef x = true ∧
  snaps (fun _ => true) e (bs.set i .undef) = some as0 /\ ∀ y x', Post y x' -> copyOut l x' = copyOut l x /\ K y (giveE l x' e)
open Classical in
noncomputable def lentT (l : Loc) (i : Nat) (cs : List Value) (ow : Own) : Own := fun b => match ow b with
 | none => none
 | some m => if m.r = l.r /\ l.p <+: m.p /\ (deepQ (m.p.drop l.p.length) = true \/ inBlk cs b) then some ⟨i, m.p.drop l.p.length⟩ else none
open Classical in
noncomputable def backT (o' : Own) (n t i : Nat) (l : Loc) (cs : List Value) (ow : Own) : Own := fun b => match o' b with
 | some m => if m.r = n then some ⟨t, m.p⟩ else if (deepQ m.p = true \/ inBlk cs b) /\ ∃ b' m', ow b' = some m' /\ m'.r = l.r then some (l.ext m.p) else none
 | none => if lentT l i cs ow b = none then ow b else none
theorem lentT_some {l : Loc} {i b : Nat} {cs : List Value} {m : Loc} (h : lentT l i cs ow b = some m) : ∃ q, ow b = some (l.ext q) /\ m = ⟨i, q⟩ /\ (deepQ q = true \/ inBlk cs b) := by
 unfold lentT at h
 split at h
 ·cases h
 ·rename_i m' hm'
  split at h
  ·rename_i hc
   cases h
   obtain ⟨h1, ⟨q, h2⟩, h3⟩ := hc
   refine ⟨q, ?_, ?_, ?_⟩
   ·rw [hm']
    cases m'
    simp only at h1 h2
    simp [Loc.ext, <- h1, <- h2]
   ·rw [<- h2]; simp
   ·rw [<- h2] at h3; simpa using h3
  ·cases h
theorem lentT_of {l : Loc} {i b : Nat} {cs : List Value} {q : List Step} (h : ow b = some (l.ext q)) (hq : deepQ q = true \/ inBlk cs b) : lentT l i cs ow b = some ⟨i, q⟩ := by
 unfold lentT
 rw [h]
 simp only
 rw [if_pos]
 ·simp [Loc.ext]
 ·exact ⟨rfl, List.prefix_append _ _, by simpa [Loc.ext] using hq⟩
theorem lentT_no {l : Loc} {i b : Nat} {cs : List Value} {m : Loc} (h : ow b = some m) (hn : ¬ (m.r = l.r /\ l.p <+: m.p)) : lentT l i cs ow b = none := by
 unfold lentT
 rw [h]
 simp only
 rw [if_neg]
 rintro ⟨h1, h2, _⟩
 exact hn ⟨h1, h2⟩
theorem lentT_none {l : Loc} {i b : Nat} {cs : List Value} (h : ow b = none) : lentT l i cs ow b = none := by
 unfold lentT
 rw [h]
theorem call_tree (s : St c w0 S0 o0 cargs e a w S ow) {t : Nat} (ht : free ow t) (htn : t <= c.nt) (htk : t = c.nt \/ c.keep.contains t = false) {f : FuncId} {bs as0 : List AVal} {args : Array Value} (hsz : args.size = bs.length)
  (hr : ∀ (i : Nat) (v : Value) (x : AVal), args[i]? = some v -> bs[i]? = some x -> RepV w.heap S ow ⟨c.nt + 1, []⟩ v x) {Post : AVal -> AVal -> Prop} {i : Nat} {l : Loc} {x : AVal} (hlr : l.r < c.nt) (hlk : c.keep.contains l.r = true)
  (hv : VMut c.g f (as0.set i x) i Post) (hbi : bs[i]? = some (copyOut l x)) (hgx : getE e l = some x) (hto : topOk x = true) (hho : hasOwn x = true) (hnx : noRef x = true)
  (hs : snaps (fun _ => true) e (bs.set i .undef) = some as0) {K : AVal -> Env -> Prop} (h : ∀ y x', Post y x' -> copyOut l x' = copyOut l x /\ K y (giveE l x' e)) :
  Gives c.g.P f args w fun v w1 => OutC c w0 S0 o0 cargs a w false t ow K v w1 := by
 obtain ⟨hl, hg⟩ := snaps_get hs
 rw [List.length_set] at hl
 have hib : i < bs.length := (List.getElem?_eq_some_iff.1 hbi).1
 have hlt : l.r ≠ t := fun he => by
  rcases htk with rfl | hk
  ·omega
  ·rw [he, hk] at hlk; cases hlk
 obtain ⟨va, hva⟩ : ∃ va, args[i]? = some va := ⟨_, Array.getElem?_eq_getElem (by rw [hsz]; exact hib)⟩
 have inj := s.wo.inj
 obtain ⟨cn, rn⟩ : ∃ cs, Rep w.heap S ow l cs x := by
  obtain ⟨cn, rn⟩ := (s.env l.r).nodeA (p := l.p) hgx hho
  have el : (⟨l.r, []⟩ : Loc).ext l.p = l := by simp [Loc.ext]
  rw [el] at rn
  exact ⟨cn, rn⟩
 have hca : isAggA (copyOut l x) = isAggA x := isAggA_copyOut l x
 obtain ⟨rv, hagg⟩ : Rep w.heap S ow ⟨c.nt + 1, []⟩ va.cells.toList (copyOut l x) /\ isAggA (copyOut l x) = isAggV va := by
  rcases hr i va _ hva hbi with (h9 | h9) | ⟨vs, xs, h9, _⟩
  ·cases x with
   | lst own sz ys => cases own <;> simp [copyOut, topOk] at h9 hto
   | lit v => simp [copyOut] at h9
   | agg ys => simp [copyOut] at h9
   | _ => simp [topOk] at hto
  ·exact h9
  ·cases x with
   | lst own sz ys => cases own <;> simp [copyOut, topOk] at h9 hto
   | lit v => simp [copyOut] at h9
   | agg ys => simp [copyOut] at h9
   | _ => simp [topOk] at hto
 have hlen : (as0.set i x).length = bs.length := by rw [List.length_set, hl]
 have wo1 : Wo c.g (as0.set i x).length w S (lentT l i va.cells.toList ow) :=
  ⟨fun b m hm => by
   obtain ⟨q, _, rfl, _⟩ := lentT_some hm
   simp only [hlen]
   omega, fun b b' m hm hm' => by
   obtain ⟨q, h1, h2, _⟩ := lentT_some hm
   obtain ⟨q', h3, h4, _⟩ := lentT_some hm'
   rw [h2] at h4
   cases h4
   exact s.wo.inj _ _ _ h1 h3, fun b m hm => by
   obtain ⟨q, h1, _⟩ := lentT_some hm
   exact s.wo.lt b _ h1, fun b hb => ⟨lentT_none (s.wo.sh b hb).1, (s.wo.sh b hb).2⟩, s.wo.gl, s.wo.ngs⟩
 have key := hv w S (lentT l i va.cells.toList ow) args (hsz.trans hlen.symm) wo1 (fun b m hm => by
   obtain ⟨q, _, rfl, _⟩ := lentT_some hm
   exact ⟨rfl, by rw [hlen]; exact hib⟩) (fun j v y h1 h2 => by
   by_cases hj : j = i
   ·subst hj
    rw [List.getElem?_set_self (by omega)] at h2
    cases h2
    rw [hva] at h1
    cases h1
    refine .inl (.inr ⟨rn.give inj rv hto fun b q hb hq => ?_, by rw [<- hca, hagg]⟩)
    rw [lentT_of hb hq]
    simp [Loc.ext]
   ·rw [List.getElem?_set_ne (Ne.symm hj)] at h2
    obtain ⟨x1, hx1⟩ : ∃ x1, bs[j]? = some x1 := ⟨_, List.getElem?_eq_getElem (by rw [<- hl]; exact (List.getElem?_eq_some_iff.1 h2).1)⟩
    exact s.snapV (fun b h => h) (fun l' b q hb ho => by cases hb) (hr j v x1 h1 hx1) (hg j x1 y (by rw [List.getElem?_set_ne (Ne.symm hj)]; exact hx1) h2) _ _)
 refine key.mono ?_
 rintro v w1 ⟨y, x', S', o', hp, hwo, hfr, hro, hry, hny, hrx⟩
 obtain ⟨hcp, hK⟩ := h y x' hp
 rw [hlen] at hwo hro hry
 obtain ⟨hrx, hnx'⟩ := hrx va hva
 have hca' : isAggA x' = isAggA x := by rw [<- isAggA_copyOut l x', hcp, hca]
 have rx' : Rep w1.heap S' o' ⟨i, []⟩ va.cells.toList x' := by
  rcases hrx with (h9 | h9) | ⟨vs, xs, h9, _⟩
  ·subst h9
   cases x with
   | lst own sz ys => cases own <;> simp [copyOut, topOk] at hcp hto
   | lit v => simp [copyOut] at hcp
   | agg ys => simp [copyOut] at hcp
   | _ => simp [topOk] at hto
  ·exact h9.1
  ·subst h9
   cases x with
   | lst own sz ys => cases own <;> simp [copyOut, topOk] at hcp hto
   | lit v => simp [copyOut] at hcp
   | agg ys => simp [copyOut] at hcp
   | _ => simp [topOk] at hto
 have old : ∀ b m, ow b = some m -> lentT l i va.cells.toList ow b = none -> o' b = none /\ w1.heap[b]? = w.heap[b]? := fun b m hm hn => hfr.old b (s.wo.lt b m hm).1 hn
 have hoS : ∀ b, S b -> o' b = none /\ w1.heap[b]? = w.heap[b]? := fun b hb => hfr.old b (s.wo.sh b hb).2 (lentT_none (s.wo.sh b hb).1)
 have hback : ∀ b m, ow b = some m -> lentT l i va.cells.toList ow b = none -> backT o' bs.length t i l va.cells.toList ow b = some m := fun b m hm hn => by
  unfold backT
  rw [(old b m hm hn).1]
  simp only [hn, if_true, hm]
 have hcase : ∀ b m, backT o' bs.length t i l va.cells.toList ow b = some m -> (∃ p, o' b = some ⟨bs.length, p⟩ /\ m = ⟨t, p⟩) ∨
   (∃ p, o' b = some ⟨i, p⟩ /\ m = l.ext p /\ (deepQ p = true \/ inBlk va.cells.toList b) /\ ∃ b' m', ow b' = some m' /\ m'.r = l.r) \/ (o' b = none /\ lentT l i va.cells.toList ow b = none /\ ow b = some m) := fun b m hm => by
  unfold backT at hm
  split at hm
  ·rename_i m' hm'
   split at hm
   ·rename_i hn
    cases hm
    refine .inl ⟨m'.p, ?_, rfl⟩
    rw [hm', <- hn]
   ·rename_i hn
    split at hm
    ·rename_i hq
     cases hm
     refine .inr (.inl ⟨m'.p, ?_, rfl, hq⟩)
     rcases hro b m' hm' with h1 | h1
     ·exact absurd h1 hn
     ·rw [hm', <- h1]
    ·cases hm
  ·rename_i hn
   split at hm
   ·rename_i hq
    exact .inr (.inr ⟨hn, hq, hm⟩)
   ·cases hm
 have wo2 : Wo c.g c.nt w1 S' (backT o' bs.length t i l va.cells.toList ow) := by
  refine ⟨fun b m hm => ?_, fun b b' m hm hm' => ?_, fun b m hm => ?_, fun b hb => ?_, hwo.gl, hwo.ngs⟩
  ·rcases hcase b m hm with ⟨p, _, rfl⟩ | ⟨p, _, rfl, _⟩ | ⟨_, _, h⟩
   ·exact htn
   ·exact Nat.le_of_lt hlr
   ·exact s.wo.rt b m h
  ·have clash : ∀ b b' q, o' b = some ⟨i, q⟩ -> (deepQ q = true \/ inBlk va.cells.toList b) -> lentT l i va.cells.toList ow b' = none -> ow b' = some (l.ext q) -> False := fun b b' q h1 h2 h3 h4 => by
    by_cases hd : deepQ q = true
    ·rw [lentT_of h4 (.inl hd)] at h3
     cases h3
    ·obtain ⟨off, n, cap, hm⟩ := h2.resolve_left hd
     obtain ⟨q0, hq0, h5, h6⟩ := Rep.place hto rv hm
     have h7 := h6 rx' hnx' hcp
     rw [h1] at h7
     have h8 : q = q0 := by simpa [Loc.ext] using h7
     subst h8
     obtain rfl := inj _ _ _ h4 h5
     rw [lentT_of h4 (.inr ⟨off, n, cap, hm⟩)] at h3
     cases h3
   rcases hcase b m hm with ⟨p, h1, rfl⟩ | ⟨p, h1, rfl, hq, _⟩ | ⟨hn, hn2, h1⟩ <;> rcases hcase b' _ hm' with ⟨p', h2, h3⟩ | ⟨p', h2, h3, hq', _⟩ | ⟨hn', hn2', h2⟩
   ·cases h3
    exact hwo.inj _ _ _ h1 h2
   ·exact absurd (congrArg Loc.r h3).symm hlt
   ·exact absurd rfl (ht b' _ h2)
   ·exact absurd (congrArg Loc.r h3) hlt
   ·rw [<- Loc.ext_inj h3] at h2
    exact hwo.inj _ _ _ h1 h2
   ·exact (clash b b' p h1 hq hn2' h2).elim
   ·exact absurd (by rw [h3]) (ht b _ h1)
   ·exact (clash b' b p' h2 hq' hn2 (h3 ▸ h1)).elim
   ·exact s.wo.inj _ _ _ h1 h2
  ·rcases hcase b m hm with ⟨p, h1, rfl⟩ | ⟨p, h1, rfl, _⟩ | ⟨_, _, h1⟩
   ·exact hwo.lt b _ h1
   ·exact hwo.lt b _ h1
   ·have := s.wo.lt b m h1
    have := hfr.size
    exact ⟨by omega, (s.wo.lt b m h1).2⟩
  ·have := hwo.sh b hb
   refine ⟨?_, this.2⟩
   unfold backT
   rw [this.1]
   simp only
   split
   ·rename_i hn
    rcases hfr.only b hb with h1 | h1 | h1
    ·exact (s.wo.sh b h1).1
    ·cases ho : ow b with
     | none => rfl
     | some m => have := (s.wo.lt b m ho).1; omega
    ·exact absurd hn h1
   ·rfl
 have fr2 : Fr w0 S0 o0 w1 S' (backT o' bs.length t i l va.cells.toList ow) := by
  refine ⟨hfr.os.trans s.fr.os, hfr.tape.trans s.fr.tape, hfr.output.trans s.fr.output, Nat.le_trans s.fr.size hfr.size, fun b h1 h2 => ?_, fun b hb => hfr.grow b (s.fr.grow b hb), fun b hb => ?_, fun b hb => ?_⟩
  ·obtain ⟨h3, h4⟩ := s.fr.old b h1 h2
   obtain ⟨h5, h6⟩ := hfr.old b (Nat.lt_of_lt_of_le h1 s.fr.size) (lentT_none h3)
   exact ⟨by simp [backT, h5, h3], h6.trans h4⟩
  ·rcases hfr.only b hb with h1 | h1 | h1
   ·exact s.fr.only b h1
   ·exact .inr (.inl (Nat.le_trans s.fr.size h1))
   ·by_cases hlt : b < w0.heap.size
    ·refine .inr (.inr fun h3 => h1 ?_)
     exact lentT_none (s.fr.old b hlt h3).1
    ·exact .inr (.inl (by omega))
  ·exact (s.fr.shp b hb).trans (hfr.shp b (Nat.lt_of_lt_of_le hb s.fr.size))
 have hR : ∀ b m, ow b = some m -> below l m = false -> backT o' bs.length t i l va.cells.toList ow b = some m /\ sameShape w.heap w1.heap b := fun b m hm hk => by
  have hn : lentT l i va.cells.toList ow b = none := lentT_no hm fun ⟨h1, h2⟩ => by simp [below, h1, fuzzy_of h2] at hk
  exact ⟨hback b m hm hn, .of_eq (old b m hm hn).2⟩
 have s2 : St c w0 S0 o0 cargs (giveE l x' e) a w1 S' (backT o' bs.length t i l va.cells.toList ow) := by
  refine s.world (below l) (fun r => r = l.r) wo2 fr2 (fun b hb => ⟨hfr.grow b hb, (hoS b hb).2⟩) hR ?_ ?_ ?_ (fun h => by omega)
  ·intro r hr b p hb
   have hn : lentT l i va.cells.toList ow b = none := lentT_no hb fun ⟨h1, _⟩ => hr h1
   exact ⟨hback b _ hb hn, (old b _ hb hn).2⟩
  ·rintro r rfl _
   simp only [giveE, if_pos]
   have el : (⟨l.r, []⟩ : Loc).ext l.p = l := by simp [Loc.ext]
   refine (s.env l.r).deepA hgx hho hca' (.inl hnx') (fun cc hc => ?_) ⟨fun b hb => ⟨hfr.grow b hb, (hoS b hb).2⟩, hR, fun b q hb hq => ?_⟩
   ·rw [el] at hc ⊢
    refine hc.back (S2 := S') (o2 := backT o' bs.length t i l va.cells.toList ow) inj (fun b hb => hb) rv hto rx' hnx' hcp (fun b q hb hq hex => ?_) fun b q hb hq hin => ?_
    ·have hb' : o' b = some ⟨i, q⟩ := by simpa [Loc.ext] using hb
     unfold backT
     rw [hb']
     simp only
     rw [if_neg (by omega), if_pos]
     refine ⟨hq, ?_⟩
     obtain ⟨b', q', h9⟩ := hex
     exact ⟨b', _, h9, rfl⟩
    ·have hn : lentT l i va.cells.toList ow b = none := by
      cases hh : lentT l i va.cells.toList ow b with
      | none => rfl
      | some m =>
       exfalso
       obtain ⟨q', h1, _, h3⟩ := lentT_some hh
       rw [hb] at h1
       have := Loc.ext_inj (Option.some.inj h1)
       subst this
       rcases h3 with h3 | h3
       ·rw [hq] at h3; cases h3
       ·exact hin h3
     exact ⟨hback b _ hb hn, (old b _ hb hn).2⟩
   ·simp only [Loc.ext, List.nil_append] at hb ⊢
    have hn : lentT l i va.cells.toList ow b = none := lentT_no hb fun ⟨_, h2⟩ => hq h2
    exact ⟨hback b _ hb hn, (old b _ hb hn).2⟩
  ·intro r hr
   simp [giveE, hr]
 have ry : RepV w1.heap S' (backT o' bs.length t i l va.cells.toList ow) ⟨t, []⟩ v y := by
  have := hry.move (S' := S') (h' := w1.heap) (o' := backT o' bs.length t i l va.cells.toList ow) (fun _ => true) (fun b hb => ⟨hb, rfl⟩) (fun b m hb hk => by cases hk) ⟨t, []⟩ fun b q hb => ⟨by
   simp only [Loc.ext, List.nil_append] at hb ⊢
   simp [backT, hb], rfl⟩
  rwa [killP_noRef _ _ hny] at this
 refine ⟨y, _, _, _, hK, s2, ry, fun b m hm => ?_, fun h => by cases h⟩
 rcases hcase b m hm with ⟨p, _, rfl⟩ | ⟨p, _, rfl, _, b', m', h1, h2⟩ | ⟨_, _, h⟩
 ·exact .inr rfl
 ·exact .inl ⟨b', m', h1, h2⟩
 ·exact .inl ⟨b, m, h, rfl⟩
end Go.VS
/- VS: a call of a function that writes through a pointer to an element of a list. -/
set_option linter.unusedVariables false
set_option linter.unusedSimpArgs false
namespace Go.VS
variable {c : Ctx} {w0 : World} {S0 : Nat -> Prop} {o0 : Own} {cargs : Array Value} {e : Env} {a : Act} {w : World} {S : Nat -> Prop} {ow : Own}
def VElem (g : Sys) (f : FuncId) (as : List AVal) (i k sz : Nat) (xs : List AVal) (Post : AVal -> List AVal -> Prop) : Prop :=
 ∀ (w : World) (S : Nat -> Prop) (o : Own) (args : Array Value) (vG : Value), args.size = as.length -> i < as.length -> Wo g (as.length + 1) w S o -> (∀ b l, o b = some l -> l.r = as.length + 1) →
  (∃ b n m, vG = .slice (some ⟨b, 0, none⟩) n m) -> noRefs xs = true -> Rep w.heap S o ⟨as.length + 1, []⟩ [vG] (.lst true sz xs) →
  (∀ v, args[i]? = some v -> Rep w.heap S o ⟨i, []⟩ [v] (.adr ⟨as.length + 1, []⟩ k [] (k * sz))) →
  (∀ (j : Nat) (v : Value) (x : AVal), j ≠ i -> args[j]? = some v -> as[j]? = some x -> ∀ (o1 : Own) (l : Loc), RepV w.heap S o1 l v x) →
  Gives g.P f args w fun v w' => ∃ y xs' S' o', Post y xs' /\ Wo g (as.length + 1) w' S' o' /\ Fr w S o w' S' o' /\ (∀ b l, o' b = some l -> l.r = as.length \/ l.r = as.length + 1) ∧
   RepV w'.heap S' o' ⟨as.length, []⟩ v y /\ noRef y = true /\ Rep w'.heap S' o' ⟨as.length + 1, []⟩ [vG] (.lst true sz xs') /\ noRefs xs' = true
def isIx : List Step -> Bool
 | [] => true
 | .idx _ :: _ => true
 | _ => false
def inL (l m : Loc) : Prop := m.r = l.r /\ l.p <+: m.p /\ isIx (m.p.drop l.p.length) = true
instance (l m : Loc) : Decidable (inL l m) := by unfold inL; infer_instance
theorem inL_ext {l : Loc} {q : List Step} (h : isIx q = true) : inL l (l.ext q) := ⟨rfl, List.prefix_append _ _, by simpa [Loc.ext] using h⟩
theorem inL_eq {l m : Loc} (h : inL l m) : ∃ q, m = l.ext q /\ isIx q = true := by
 obtain ⟨h1, ⟨q, h2⟩, h3⟩ := h
 refine ⟨q, ?_, by rw [<- h2] at h3; simpa using h3⟩
 cases m
 simp only at h1 h2
 subst h1 h2
 rfl
theorem fuzzy_self_app (p : List Step) (a b : List Step) : fuzzy (p ++ a) (p ++ b) = fuzzy a b := by
 induction p with
 | nil => rfl
 | cons s p ih => cases s <;> simp [fuzzy, ih]
theorem inL_far {l m : Loc} (h : inL l m) (hb : below (l.idx 0) m = false) : m = l := by
 obtain ⟨q, rfl, hq⟩ := inL_eq h
 cases q with
 | nil => exact Loc.ext_nil l
 | cons s q =>
  cases s with
  | fld f => simp [isIx] at hq
  | idx j =>
   exfalso
   simp only [below, Loc.idx, Loc.ext, beq_self_eq_true, Bool.true_and] at hb
   rw [fuzzy_self_app] at hb
   simp [fuzzy] at hb
def lentE (l : Loc) (G : Nat) (ow : Own) : Own := fun b => match ow b with
 | none => none
 | some m => if inL l m then some ⟨G, m.p.drop l.p.length⟩ else none
theorem lentE_of {l : Loc} {G b : Nat} {q : List Step} (h : ow b = some (l.ext q)) (hq : isIx q = true) : lentE l G ow b = some ⟨G, q⟩ := by
 simp only [lentE, h, if_pos (inL_ext hq)]
 simp [Loc.ext]
theorem lentE_some {l : Loc} {G b : Nat} {m : Loc} (h : lentE l G ow b = some m) : ∃ q, ow b = some (l.ext q) /\ m = ⟨G, q⟩ /\ isIx q = true := by
 unfold lentE at h
 split at h
 ·cases h
 ·rename_i m' hm'
  split at h
  ·rename_i hin
   cases h
   obtain ⟨q, rfl, hq⟩ := inL_eq hin
   exact ⟨q, hm', by simp [Loc.ext], hq⟩
  ·cases h
theorem lentE_none {l : Loc} {G b : Nat} {m : Loc} (h : ow b = some m) (hn : ¬ inL l m) : lentE l G ow b = none := by
 simp [lentE, h, hn]
def dropE (l : Loc) (ow : Own) : Own := fun b => match ow b with
 | none => none
 | some m => if inL l m then none else some m
theorem dropE_eq {l : Loc} {b : Nat} {m : Loc} (h : dropE l ow b = some m) : ow b = some m /\ ¬ inL l m := by
 unfold dropE at h
 split at h
 ·cases h
 ·rename_i m' hm'
  split at h
  ·cases h
  ·rename_i hn
   cases h
   exact ⟨hm', hn⟩
theorem dropE_ne {l : Loc} {b : Nat} {m : Loc} (h : ow b = some m) (hn : ¬ inL l m) : dropE l ow b = some m := by
 simp [dropE, h, hn]
def backE (o' : Own) (n t : Nat) (l : Loc) (o : Own) : Own := fun b => match o' b with
 | some m' => if m'.r = n then some ⟨t, m'.p⟩ else if isIx m'.p = true then some (l.ext m'.p) else none
 | none => o b
theorem Rep.moveL {h h' : Array Obj} {S S' : Nat -> Prop} {o o' : Own} {l l' : Loc} {cs : List Value} {sz : Nat} {xs : List AVal} (r : Rep h S o l cs (.lst true sz xs)) (hn : noRefs xs = true) (hS : ∀ b, S b -> S' b /\ h'[b]? = h[b]?)
  (hO : ∀ b q, isIx q = true -> o b = some (l.ext q) -> o' b = some (l'.ext q) /\ h'[b]? = h[b]?) : Rep h' S' o' l' cs (.lst true sz xs) := by
 rcases r.lst_inv with ⟨rfl, rfl⟩ | ⟨b, cap, cur, e, fr, rfl, hb, ho, hfr, hsz, hlen, hcap, hnr, hm⟩
 ·exact .nil
 ·have h1 := hO b [] rfl (by rw [Loc.ext_nil]; exact ho)
  rw [Loc.ext_nil] at h1
  refine .lst (h1.2.trans hb) h1.1 hfr hsz hlen hcap hnr fun i x hx => ?_
  have := (hm i x hx).move (S' := S') (h' := h') (o' := o') (fun _ => true) hS (fun b m hb hk => by cases hk) (l'.idx i) fun b q hq => by
   rw [Loc.idx_ext] at hq ⊢
   exact hO b _ rfl hq
  rwa [killP_noRef _ _ (noRefs_get hn hx)] at this
theorem call_elem (s : St c w0 S0 o0 cargs e a w S ow) {t : Nat} (ht : free ow t) (htn : t <= c.nt) {f : FuncId} {bs as0 : List AVal} {args : Array Value} (hsz : args.size = bs.length)
  (hr : ∀ (i : Nat) (v : Value) (x : AVal), args[i]? = some v -> bs[i]? = some x -> RepV w.heap S ow ⟨c.nt + 1, []⟩ v x) {lend : Bool} {i k sz : Nat} {l : Loc} {xs : List AVal} {Post : AVal -> List AVal -> Prop}
  (hv : VElem c.g f as0 i k sz xs Post) (hbi : bs[i]? = some (.adr l k [] (k * sz))) (hgx : getE e l = some (.lst true sz xs)) (hk : k < xs.length) (hsz0 : 0 < sz)
  (hs : snaps (fun l' => !lend || near l l') e (bs.set i .undef) = some as0) {K : AVal -> Env -> Prop}
  (h : ∀ y xs', Post y xs' -> (lend = true -> closedA y = true /\ closedAs xs' = true) /\ K y (fun r => if r = l.r then putP l.p (.lst true sz xs') (killP (below (l.idx 0)) (e r)) else killP (below (l.idx 0)) (e r))) :
  Gives c.g.P f args w fun v w1 => OutC c w0 S0 o0 cargs a w false t ow K v w1 := by
 obtain ⟨hl, hg⟩ := snaps_get hs
 rw [List.length_set] at hl
 have hib : i < bs.length := (List.getElem?_eq_some_iff.1 hbi).1
 obtain ⟨cn, rn⟩ := s.nodeRep hgx rfl
 rcases rn.lst_inv with ⟨_, h0⟩ | ⟨bl, cap, cur, et, fr, rfl, hbl, hol, hfrl, hszc, hlen, hcap, hnx, rx⟩
 ·subst h0; simp at hk
 have hltr : l.r ≠ t := ht bl l hol
 have hSc : ∀ b, (S b \/ (lend = true /\ ∃ m, ow b = some m /\ ¬ inL l m)) -> lentE l (as0.length + 1) ow b = none /\ b < w.heap.size := fun b hb => by
  rcases hb with hb | ⟨_, m, hm, hn⟩
  ·exact ⟨by simp [lentE, (s.wo.sh b hb).1], (s.wo.sh b hb).2⟩
  ·exact ⟨lentE_none hm hn, (s.wo.lt b m hm).1⟩
 have wo1 : Wo c.g (as0.length + 1) w (fun b => S b \/ (lend = true /\ ∃ m, ow b = some m /\ ¬ inL l m)) (lentE l (as0.length + 1) ow) :=
  ⟨fun b m hm => by
   obtain ⟨q, _, rfl, _⟩ := lentE_some hm
   exact Nat.le_refl _, fun b b' m hm hm' => by
   obtain ⟨q, h1, h2, _⟩ := lentE_some hm
   obtain ⟨q', h3, h4, _⟩ := lentE_some hm'
   rw [h2] at h4
   cases h4
   exact s.wo.inj _ _ _ h1 h3, fun b m hm => by
   obtain ⟨q, h1, _⟩ := lentE_some hm
   exact s.wo.lt b _ h1, hSc, s.wo.gl, s.wo.ngs⟩
 have key := hv w _ (lentE l (as0.length + 1) ow) args (.slice (some ⟨bl, 0, none⟩) xs.length cap) (hsz.trans hl.symm) (by rw [hl]; exact hib) wo1 (fun b m hm => by
   obtain ⟨q, _, rfl, _⟩ := lentE_some hm
   rfl) ⟨_, _, _, rfl⟩ hnx (rn.moveL hnx (fun b hb => ⟨.inl hb, rfl⟩) fun b q hq hb => ⟨by
    have := lentE_of (G := as0.length + 1) hb hq
    simpa [Loc.ext] using this, rfl⟩) (fun v hv1 => by
   obtain ⟨b', cur', t', fr', hv', hb', ho'⟩ := ((hr i v _ hv1 hbi).one (by simp) rfl (by simp)).adr_inv
   simp only [List.cons.injEq, and_true] at hv'
   obtain rfl := s.wo.inj _ _ _ hol ho'
   subst hv'
   exact .adr hbl (lentE_of (q := []) (by rw [Loc.ext_nil]; exact hol) rfl)) (fun j v y hj h1 h2 o1 l1 => by
   obtain ⟨x1, hx1⟩ : ∃ x1, bs[j]? = some x1 := ⟨_, List.getElem?_eq_getElem (by rw [<- hl]; exact (List.getElem?_eq_some_iff.1 h2).1)⟩
   exact s.snapV (fun b h => .inl h) (fun l' b q hb ho => by
    simp only [Bool.or_eq_false_iff, Bool.not_eq_false'] at hb
    exact .inr ⟨hb.1, _, ho, fun hin => near_of hb.2 q ⟨hin.1, hin.2.1⟩⟩) (hr j v x1 h1 hx1) (hg j x1 y (by rw [List.getElem?_set_ne (Ne.symm hj)]; exact hx1) h2) _ _)
 refine key.mono ?_
 rintro v w1 ⟨y, xs', S', o', hp, hwo, hfr, hro, hry, hny, hrx, hnx'⟩
 obtain ⟨hc, hK⟩ := h y xs' hp
 rcases hrx.lst_inv with ⟨h0, _⟩ | ⟨bl', cap', cur', et', fr', hv', hbl', hol', hfrl', hszc', hlen', hcap', _, rx'⟩
 ·simp at h0
 simp only [List.cons.injEq, Value.slice.injEq, Option.some.injEq, Addr.mk.injEq, and_true] at hv'
 obtain ⟨rfl, hxl, rfl⟩ := hv'
 have old : ∀ b m, dropE l ow b = some m -> o' b = none /\ w1.heap[b]? = w.heap[b]? := fun b m hm => hfr.old b (s.wo.lt b m (dropE_eq hm).1).1 (lentE_none (dropE_eq hm).1 (dropE_eq hm).2)
 have hoS : ∀ b, S b -> o' b = none /\ w1.heap[b]? = w.heap[b]? := fun b hb => hfr.old b (s.wo.sh b hb).2 (by simp [lentE, (s.wo.sh b hb).1])
 have hcase : ∀ b m, backE o' as0.length t l (dropE l ow) b = some m -> (∃ p, o' b = some ⟨as0.length, p⟩ /\ m = ⟨t, p⟩) \/ (∃ p, o' b = some ⟨as0.length + 1, p⟩ /\ m = l.ext p /\ isIx p = true) \/ (o' b = none /\ dropE l ow b = some m) := fun b m hm => by
  unfold backE at hm
  split at hm
  ·rename_i m' hm'
   split at hm
   ·rename_i hn
    cases hm
    exact .inl ⟨m'.p, by rw [hm', <- hn], rfl⟩
   ·rename_i hn
    split at hm
    ·rename_i hix
     cases hm
     rcases hro b m' hm' with h1 | h1
     ·exact absurd h1 hn
     ·exact .inr (.inl ⟨m'.p, by rw [hm', <- h1], rfl, hix⟩)
    ·cases hm
  ·rename_i hn
   exact .inr (.inr ⟨hn, hm⟩)
 have hback : ∀ b m, dropE l ow b = some m -> backE o' as0.length t l (dropE l ow) b = some m := fun b m hm => by
  unfold backE
  rw [(old b m hm).1]
  exact hm
 have hbackl : backE o' as0.length t l (dropE l ow) bl = some l := by
  unfold backE
  rw [hol']
  simp only
  rw [if_neg (by omega), if_pos (by rfl), Loc.ext_nil]
 have nodrop : ∀ b p, dropE l ow b = some (l.ext p) -> isIx p = true -> False := fun b p h1 h2 => (dropE_eq h1).2 (inL_ext h2)
 have wo2 : Wo c.g c.nt w1 (fun b => S' b /\ dropE l ow b = none) (backE o' as0.length t l (dropE l ow)) := by
  refine ⟨fun b m hm => ?_, fun b b' m hm hm' => ?_, fun b m hm => ?_, fun b hb => ?_, hwo.gl, hwo.ngs⟩
  ·rcases hcase b m hm with ⟨p, _, rfl⟩ | ⟨p, _, rfl, _⟩ | ⟨_, h⟩
   ·exact htn
   ·exact s.wo.rt bl l hol
   ·exact s.wo.rt b m (dropE_eq h).1
  ·rcases hcase b m hm with ⟨p, h1, rfl⟩ | ⟨p, h1, rfl, hq⟩ | ⟨hn, h1⟩ <;> rcases hcase b' _ hm' with ⟨p', h2, h3⟩ | ⟨p', h2, h3, hq'⟩ | ⟨hn', h2⟩
   ·cases h3
    exact hwo.inj _ _ _ h1 h2
   ·exact absurd (congrArg Loc.r h3).symm hltr
   ·exact absurd rfl (ht b' _ (dropE_eq h2).1)
   ·exact absurd (congrArg Loc.r h3) hltr
   ·rw [<- Loc.ext_inj h3] at h2
    exact hwo.inj _ _ _ h1 h2
   ·exact (nodrop b' p h2 hq).elim
   ·exact absurd (by rw [h3]) (ht b _ (dropE_eq h1).1)
   ·exact (nodrop b p' (h3 ▸ h1) hq').elim
   ·exact s.wo.inj _ _ _ (dropE_eq h1).1 (dropE_eq h2).1
  ·rcases hcase b m hm with ⟨p, h1, rfl⟩ | ⟨p, h1, rfl, _⟩ | ⟨_, h1⟩
   ·exact hwo.lt b _ h1
   ·exact hwo.lt b _ h1
   ·have := s.wo.lt b m (dropE_eq h1).1
    have := hfr.size
    exact ⟨by omega, (s.wo.lt b m (dropE_eq h1).1).2⟩
  ·have := hwo.sh b hb.1
   exact ⟨by simp [backE, this.1, hb.2], this.2⟩
 have dnone : ∀ b, ow b = none -> dropE l ow b = none := fun b hb => by simp [dropE, hb]
 have fr2 : Fr w0 S0 o0 w1 (fun b => S' b /\ dropE l ow b = none) (backE o' as0.length t l (dropE l ow)) := by
  refine ⟨hfr.os.trans s.fr.os, hfr.tape.trans s.fr.tape, hfr.output.trans s.fr.output, Nat.le_trans s.fr.size hfr.size, fun b h1 h2 => ?_, fun b hb => ?_, fun b hb => ?_, fun b hb => ?_⟩
  ·obtain ⟨h3, h4⟩ := s.fr.old b h1 h2
   obtain ⟨h5, h6⟩ := hfr.old b (Nat.lt_of_lt_of_le h1 s.fr.size) (by simp [lentE, h3])
   exact ⟨by simp [backE, h5, dropE, h3], h6.trans h4⟩
  ·have := s.fr.grow b hb
   exact ⟨hfr.grow b (.inl this), dnone b (s.wo.sh b this).1⟩
  ·rcases hfr.only b hb.1 with (h1 | ⟨_, m, h1, h3⟩) | h1 | h1
   ·exact s.fr.only b h1
   ·exact absurd (dropE_ne h1 h3) (by rw [hb.2]; simp)
   ·exact .inr (.inl (Nat.le_trans s.fr.size h1))
   ·by_cases hlt : b < w0.heap.size
    ·refine .inr (.inr fun h3 => h1 ?_)
     simp [lentE, (s.fr.old b hlt h3).1]
    ·exact .inr (.inl (by omega))
  ·exact (s.fr.shp b hb).trans (hfr.shp b (Nat.lt_of_lt_of_le hb s.fr.size))
 have hcl : ∀ z, (lend = true -> closedA z = true) -> ∀ l1 v1, RepV w1.heap S' o' l1 v1 z -> RepV w1.heap (fun b => S' b /\ dropE l ow b = none) o' l1 v1 z := fun z hz l1 v1 rz => by
  cases lend with
  | true => exact rz.closed (hz rfl)
  | false =>
   have := rz.move (S' := fun b => S' b /\ dropE l ow b = none) (h' := w1.heap) (o' := o') (fun _ => false) (fun b hb => ⟨⟨hb, by
    cases ho : dropE l ow b with
    | none => rfl
    | some m =>
     exfalso
     have h9 := s.wo.lt b m (dropE_eq ho).1
     rcases hfr.only b hb with (h1 | ⟨h1, _⟩) | h1 | h1
     ·have := (s.wo.sh b h1).1
      rw [(dropE_eq ho).1] at this
      cases this
     ·cases h1
     ·omega
     ·exact h1 (lentE_none (dropE_eq ho).1 (dropE_eq ho).2)⟩, rfl⟩) (fun b m hb _ => ⟨hb, .of_eq rfl⟩) l1 fun b q hb => ⟨hb, rfl⟩
   rwa [killP_false] at this
 have ry : RepV w1.heap (fun b => S' b /\ dropE l ow b = none) (backE o' as0.length t l (dropE l ow)) ⟨t, []⟩ v y := by
  have := (hcl y (fun h => (hc h).1) _ _ hry).move (S' := fun b => S' b /\ dropE l ow b = none) (h' := w1.heap) (o' := backE o' as0.length t l (dropE l ow)) (fun _ => true) (fun b hb => ⟨hb, rfl⟩) (fun b m hb hk => by cases hk) ⟨t, []⟩ fun b q hb => ⟨by
   simp only [Loc.ext, List.nil_append] at hb ⊢
   simp [backE, hb], rfl⟩
  rwa [killP_noRef _ _ hny] at this
 have rx2 : Rep w1.heap (fun b => S' b /\ dropE l ow b = none) (backE o' as0.length t l (dropE l ow)) l [.slice (some ⟨bl, 0, none⟩) xs.length cap] (.lst true sz xs') := by
  have h1 := (hcl (.lst true sz xs') (fun h => by simp only [closedA, Bool.true_and]; exact (hc h).2) ⟨as0.length + 1, []⟩ (.slice (some ⟨bl, 0, none⟩) xs.length cap) (.mk rfl rfl hrx)).one (by simp) rfl (by simp)
  refine h1.moveL hnx' (fun b hb => ⟨hb, rfl⟩) fun b q hq hb => ⟨?_, rfl⟩
  unfold backE
  rw [hb]
  simp only [Loc.ext, List.nil_append]
  exact (if_neg (show ¬ as0.length + 1 = as0.length by omega)).trans (if_pos hq)
 have hlnt : l.r ≠ c.nt := fun h => by
  unfold getE at hgx
  rw [h, s.lim] at hgx
  have := getP_undef hgx
  cases this
 have hshp : ∀ b m, ow b = some m -> below (l.idx 0) m = false -> backE o' as0.length t l (dropE l ow) b = some m /\ sameShape w.heap w1.heap b := fun b m hm hkm => by
  by_cases hin : inL l m
  ·have := inL_far hin hkm
   subst this
   obtain rfl := s.wo.inj _ _ _ hol hm
   exact ⟨hbackl, hfr.shp _ (s.wo.lt _ _ hm).1⟩
  ·have h1 := dropE_ne hm hin
   exact ⟨hback b m h1, .of_eq (old b m h1).2⟩
 refine ⟨y, _, _, _, hK, s.world (below (l.idx 0)) (fun r => r = l.r) wo2 fr2 (fun b hb => ⟨⟨hfr.grow b (.inl hb), dnone b (s.wo.sh b hb).1⟩, (hoS b hb).2⟩) hshp ?_ ?_ (fun r hr => by simp only [if_neg hr]) (fun h => hlnt h.symm), ry, fun b m hm => ?_, fun h => by cases h⟩
 ·intro r hr b p hb
  have h1 : dropE l ow b = some ⟨r, p⟩ := dropE_ne hb fun hin => hr hin.1
  exact ⟨hback b _ h1, (old b _ h1).2⟩
 ·rintro r rfl _
  simp only [if_true]
  have h0 := s.env l.r
  unfold getE at hgx
  refine h0.deep hgx rfl rfl (.inl (by simp only [noRef]; exact hnx')) (fun cs hcs => ?_) ⟨fun b hb => ⟨⟨hfr.grow b (.inl hb), dnone b (s.wo.sh b hb).1⟩, (hoS b hb).2⟩, hshp, fun b q hb hq => ?_⟩
  ·have el : (⟨l.r, []⟩ : Loc).ext l.p = l := by simp [Loc.ext]
   rw [el] at hcs ⊢
   rcases hcs.lst_inv with ⟨_, h9⟩ | ⟨b2, cap2, cur2, et2, fr2', hcs2, hb2, ho2, _, hsz2, _⟩
   ·subst h9; simp at hk
   ·obtain rfl := s.wo.inj _ _ _ hol ho2
    rw [hbl] at hb2
    cases hb2
    have hcap2 : cap2 = cap := Nat.eq_of_mul_eq_mul_right hsz0 (by rw [<- hsz2, <- hszc])
    rw [hcs2, hcap2]
    exact rx2
  ·simp only [Loc.ext, List.nil_append] at hb ⊢
   have h1 : dropE l ow b = some ⟨l.r, q⟩ := dropE_ne hb fun hin => hq hin.2.1
   exact ⟨hback b _ h1, (old b _ h1).2⟩
 ·rcases hcase b m hm with ⟨p, _, rfl⟩ | ⟨p, _, rfl, _⟩ | ⟨_, h⟩
  ·exact .inr rfl
  ·exact .inl ⟨bl, l, hol, rfl⟩
  ·exact .inl ⟨b, m, (dropE_eq h).1, rfl⟩
def callEl (c : Ctx) (qt : Bool) (f : FuncId) (bs : List AVal) (e : Env) (K : AVal -> Env -> Prop) : Prop :=
 qt = false /\ ∃ (lend : Bool) (i k sz : Nat) (l : Loc) (xs as0 : List AVal) (Post : AVal -> List AVal -> Prop), bs[i]? = some (.adr l k [] (k * sz)) /\ getE e l = some (.lst true sz xs) /\ k < xs.length /\ 0 < sz ∧
  snaps (fun l' => !lend || near l l') e (bs.set i .undef) = some as0 /\ VElem c.g f as0 i k sz xs Post ∧
  ∀ y xs', Post y xs' -> (lend = true -> closedA y = true /\ closedAs xs' = true) /\ K y (fun r => if r = l.r then putP l.p (.lst true sz xs') (killP (below (l.idx 0)) (e r)) else killP (below (l.idx 0)) (e r))
end Go.VS
/- VS: a call of a function that takes a list: what it answers may be that list, or its beginning. -/
set_option linter.unusedVariables false
set_option linter.unusedSimpArgs false
namespace Go.VS
variable {c : Ctx} {w0 : World} {S0 : Nat -> Prop} {o0 : Own} {cargs : Array Value} {e : Env} {a : Act} {w : World} {S : Nat -> Prop} {ow : Own}
def VTake (g : Sys) (f : FuncId) (as : List AVal) (i sz : Nat) (xs : List AVal) (Post : AVal -> Prop) : Prop :=
 ∀ (w : World) (S : Nat -> Prop) (o : Own) (args : Array Value), args.size = as.length -> i < as.length -> Wo g as.length w S o -> (∀ b l, o b = some l -> l.r = i) →
  (∀ v, args[i]? = some v -> Rep w.heap S o ⟨i, []⟩ [v] (.lst true sz xs)) →
  (∀ (j : Nat) (v : Value) (x : AVal), j ≠ i -> args[j]? = some v -> as[j]? = some x -> ∀ (o1 : Own) (l : Loc), RepV w.heap S o1 l v x) →
  Gives g.P f args w fun v w' => ∃ y S' o', Post y /\ Wo g as.length w' S' o' /\ Fr w S o w' S' o' /\ (∀ b l, o' b = some l -> l.r = as.length) ∧
   RepV w'.heap S' o' ⟨as.length, []⟩ v y /\ noRef y = true
theorem VTake.mono {g : Sys} {f : FuncId} {as : List AVal} {i sz : Nat} {xs : List AVal} {Post Post' : AVal -> Prop} (h : VTake g f as i sz xs Post) (hp : ∀ y, Post y -> Post' y) : VTake g f as i sz xs Post' := fun w S o args h1 h2 h3 h4 h5 h6 =>
 (h w S o args h1 h2 h3 h4 h5 h6).mono fun v w' ⟨y, S', o', a1, a2⟩ => ⟨y, S', o', hp _ a1, a2⟩
def lentR (r i : Nat) (ow : Own) : Own := fun b => match ow b with
 | none => none
 | some m => if m.r = r then some ⟨i, m.p⟩ else none
def dropR (r : Nat) (ow : Own) : Own := fun b => match ow b with
 | none => none
 | some m => if m.r = r then none else some m
def backR (o' : Own) (t : Nat) (o : Own) : Own := fun b => match o' b with
 | some m' => some ⟨t, m'.p⟩
 | none => o b
theorem lentR_some {r i b : Nat} {m : Loc} (h : lentR r i ow b = some m) : ∃ q, ow b = some ⟨r, q⟩ /\ m = ⟨i, q⟩ := by
 unfold lentR at h
 split at h
 ·cases h
 ·rename_i m' hm'
  split at h
  ·rename_i hr
   cases h
   exact ⟨m'.p, by rw [hm', <- hr], rfl⟩
  ·cases h
theorem lentR_of {r i b : Nat} {q : List Step} (h : ow b = some ⟨r, q⟩) : lentR r i ow b = some ⟨i, q⟩ := by simp [lentR, h]
theorem lentR_none {r i b : Nat} {m : Loc} (h : ow b = some m) (hn : m.r ≠ r) : lentR r i ow b = none := by simp [lentR, h, hn]
theorem dropR_eq {r b : Nat} {m : Loc} (h : dropR r ow b = some m) : ow b = some m /\ m.r ≠ r := by
 unfold dropR at h
 split at h
 ·cases h
 ·rename_i m' hm'
  split at h
  ·cases h
  ·rename_i hn
   cases h
   exact ⟨hm', hn⟩
theorem dropR_ne {r b : Nat} {m : Loc} (h : ow b = some m) (hn : m.r ≠ r) : dropR r ow b = some m := by simp [dropR, h, hn]
theorem call_take (s : St c w0 S0 o0 cargs e a w S ow) {t : Nat} (ht : free ow t) (htn : t <= c.nt) (htk : t = c.nt \/ c.keep.contains t = false) {f : FuncId} {bs as0 : List AVal} {args : Array Value} (hsz : args.size = bs.length)
  (hr : ∀ (i : Nat) (v : Value) (x : AVal), args[i]? = some v -> bs[i]? = some x -> RepV w.heap S ow ⟨c.nt + 1, []⟩ v x) {lend : Bool} {i r sz : Nat} {xs : List AVal} {Post : AVal -> Prop}
  (hrn : r < c.nt) (hrk : c.keep.contains r = true) (hv : VTake c.g f as0 i sz xs Post) (hbi : bs[i]? = some (.href ⟨r, []⟩ sz 0 xs.length)) (hgx : e r = .lst true sz xs)
  (hs : snaps (fun l' => !lend || l'.r == r) e (bs.set i .undef) = some as0) {K : AVal -> Env -> Prop}
  (h : ∀ y, Post y -> (lend = true -> closedA y = true) /\ K y (fun q => if q = r then .undef else killP (fun l => l.r == r) (e q))) :
  Gives c.g.P f args w fun v w1 => OutC c w0 S0 o0 cargs a w false t ow K v w1 := by
 obtain ⟨hl, hg⟩ := snaps_get hs
 rw [List.length_set] at hl
 have hib : i < bs.length := (List.getElem?_eq_some_iff.1 hbi).1
 have hrt : r ≠ t := fun he => by
  rcases htk with rfl | hk
  ·omega
  ·rw [he, hk] at hrk; cases hrk
 obtain ⟨cn, rn⟩ := s.nodeRep (l := ⟨r, []⟩) (show getE e ⟨r, []⟩ = some (.lst true sz xs) by simp [getE, getP, hgx]) rfl
 have hnx : noRefs xs = true := rn.lst_noRefs
 have hSc : ∀ b, (S b \/ (lend = true /\ ∃ m, ow b = some m /\ m.r ≠ r)) -> lentR r i ow b = none /\ b < w.heap.size := fun b hb => by
  rcases hb with hb | ⟨_, m, hm, hn⟩
  ·exact ⟨by simp [lentR, (s.wo.sh b hb).1], (s.wo.sh b hb).2⟩
  ·exact ⟨lentR_none hm hn, (s.wo.lt b m hm).1⟩
 have wo1 : Wo c.g as0.length w (fun b => S b \/ (lend = true /\ ∃ m, ow b = some m /\ m.r ≠ r)) (lentR r i ow) :=
  ⟨fun b m hm => by
   obtain ⟨q, _, rfl⟩ := lentR_some hm
   simp only
   omega, fun b b' m hm hm' => by
   obtain ⟨q, h1, h2⟩ := lentR_some hm
   obtain ⟨q', h3, h4⟩ := lentR_some hm'
   rw [h2] at h4
   cases h4
   exact s.wo.inj _ _ _ h1 h3, fun b m hm => by
   obtain ⟨q, h1, _⟩ := lentR_some hm
   exact s.wo.lt b _ h1, hSc, s.wo.gl, s.wo.ngs⟩
 have key := hv w _ (lentR r i ow) args (hsz.trans hl.symm) (by rw [hl]; exact hib) wo1 (fun b m hm => by
   obtain ⟨q, _, rfl⟩ := lentR_some hm
   rfl) (fun v hv1 => by
   have h1 := (hr i v _ hv1 hbi).one (by simp) rfl (by simp)
   have h2 := Rep.of_href s.wo.inj rn (l' := ⟨c.nt + 1, []⟩) h1 rfl (Nat.le_refl _)
   rw [List.take_length] at h2
   have h3 := h2.move (S' := fun b => S b \/ (lend = true /\ ∃ m, ow b = some m /\ m.r ≠ r)) (h' := w.heap) (o' := lentR r i ow) (fun _ => true) (fun b hb => ⟨.inl hb, rfl⟩) (fun b m hb hk => by cases hk) ⟨i, []⟩ fun b q hq => ⟨by
    simp only [Loc.ext, List.nil_append] at hq ⊢
    exact lentR_of hq, rfl⟩
   rwa [killP_noRef _ _ (show noRef (.lst true sz xs) = true by simp only [noRef]; exact hnx)] at h3) (fun j v y hj h1 h2 o1 l1 => by
   obtain ⟨x1, hx1⟩ : ∃ x1, bs[j]? = some x1 := ⟨_, List.getElem?_eq_getElem (by rw [<- hl]; exact (List.getElem?_eq_some_iff.1 h2).1)⟩
   exact s.snapV (fun b h => .inl h) (fun l' b q hb ho => by
    simp only [Bool.or_eq_false_iff, Bool.not_eq_false', beq_eq_false_iff_ne] at hb
    exact .inr ⟨hb.1, _, ho, fun hin => hb.2 hin⟩) (hr j v x1 h1 hx1) (hg j x1 y (by rw [List.getElem?_set_ne (Ne.symm hj)]; exact hx1) h2) _ _)
 refine key.mono ?_
 rintro v w1 ⟨y, S', o', hp, hwo, hfr, hro, hry, hny⟩
 obtain ⟨hc, hK⟩ := h y hp
 have old : ∀ b m, dropR r ow b = some m -> o' b = none /\ w1.heap[b]? = w.heap[b]? := fun b m hm => hfr.old b (s.wo.lt b m (dropR_eq hm).1).1 (lentR_none (dropR_eq hm).1 (dropR_eq hm).2)
 have hoS : ∀ b, S b -> o' b = none /\ w1.heap[b]? = w.heap[b]? := fun b hb => hfr.old b (s.wo.sh b hb).2 (by simp [lentR, (s.wo.sh b hb).1])
 have hcase : ∀ b m, backR o' t (dropR r ow) b = some m -> (∃ p, o' b = some ⟨as0.length, p⟩ /\ m = ⟨t, p⟩) \/ (o' b = none /\ dropR r ow b = some m) := fun b m hm => by
  unfold backR at hm
  split at hm
  ·rename_i m' hm'
   cases hm
   exact .inl ⟨m'.p, by rw [hm', <- hro b m' hm'], rfl⟩
  ·rename_i hn
   exact .inr ⟨hn, hm⟩
 have hback : ∀ b m, dropR r ow b = some m -> backR o' t (dropR r ow) b = some m := fun b m hm => by
  unfold backR
  rw [(old b m hm).1]
  exact hm
 have wo2 : Wo c.g c.nt w1 (fun b => S' b /\ dropR r ow b = none) (backR o' t (dropR r ow)) := by
  refine ⟨fun b m hm => ?_, fun b b' m hm hm' => ?_, fun b m hm => ?_, fun b hb => ?_, hwo.gl, hwo.ngs⟩
  ·rcases hcase b m hm with ⟨p, _, rfl⟩ | ⟨_, h⟩
   ·exact htn
   ·exact s.wo.rt b m (dropR_eq h).1
  ·rcases hcase b m hm with ⟨p, h1, rfl⟩ | ⟨hn, h1⟩ <;> rcases hcase b' _ hm' with ⟨p', h2, h3⟩ | ⟨hn', h2⟩
   ·cases h3
    exact hwo.inj _ _ _ h1 h2
   ·exact absurd rfl (ht b' _ (dropR_eq h2).1)
   ·exact absurd (by rw [h3]) (ht b _ (dropR_eq h1).1)
   ·exact s.wo.inj _ _ _ (dropR_eq h1).1 (dropR_eq h2).1
  ·rcases hcase b m hm with ⟨p, h1, rfl⟩ | ⟨_, h1⟩
   ·exact hwo.lt b _ h1
   ·have := s.wo.lt b m (dropR_eq h1).1
    have := hfr.size
    exact ⟨by omega, (s.wo.lt b m (dropR_eq h1).1).2⟩
  ·have := hwo.sh b hb.1
   exact ⟨by simp [backR, this.1, hb.2], this.2⟩
 have dnone : ∀ b, ow b = none -> dropR r ow b = none := fun b hb => by simp [dropR, hb]
 have fr2 : Fr w0 S0 o0 w1 (fun b => S' b /\ dropR r ow b = none) (backR o' t (dropR r ow)) := by
  refine ⟨hfr.os.trans s.fr.os, hfr.tape.trans s.fr.tape, hfr.output.trans s.fr.output, Nat.le_trans s.fr.size hfr.size, fun b h1 h2 => ?_, fun b hb => ?_, fun b hb => ?_, fun b hb => ?_⟩
  ·obtain ⟨h3, h4⟩ := s.fr.old b h1 h2
   obtain ⟨h5, h6⟩ := hfr.old b (Nat.lt_of_lt_of_le h1 s.fr.size) (by simp [lentR, h3])
   exact ⟨by simp [backR, h5, dropR, h3], h6.trans h4⟩
  ·have := s.fr.grow b hb
   exact ⟨hfr.grow b (.inl this), dnone b (s.wo.sh b this).1⟩
  ·rcases hfr.only b hb.1 with (h1 | ⟨_, m, h1, h3⟩) | h1 | h1
   ·exact s.fr.only b h1
   ·exact absurd (dropR_ne h1 h3) (by rw [hb.2]; simp)
   ·exact .inr (.inl (Nat.le_trans s.fr.size h1))
   ·by_cases hlt : b < w0.heap.size
    ·refine .inr (.inr fun h3 => h1 ?_)
     simp [lentR, (s.fr.old b hlt h3).1]
    ·exact .inr (.inl (by omega))
  ·exact (s.fr.shp b hb).trans (hfr.shp b (Nat.lt_of_lt_of_le hb s.fr.size))
 have hcl : RepV w1.heap (fun b => S' b /\ dropR r ow b = none) o' ⟨as0.length, []⟩ v y := by
  cases lend with
  | true => exact hry.closed (hc rfl)
  | false =>
   have := hry.move (S' := fun b => S' b /\ dropR r ow b = none) (h' := w1.heap) (o' := o') (fun _ => false) (fun b hb => ⟨⟨hb, by
    cases ho : dropR r ow b with
    | none => rfl
    | some m =>
     exfalso
     have h9 := s.wo.lt b m (dropR_eq ho).1
     rcases hfr.only b hb with (h1 | ⟨h1, _⟩) | h1 | h1
     ·have := (s.wo.sh b h1).1
      rw [(dropR_eq ho).1] at this
      cases this
     ·cases h1
     ·omega
     ·exact h1 (lentR_none (dropR_eq ho).1 (dropR_eq ho).2)⟩, rfl⟩) (fun b m hb _ => ⟨hb, .of_eq rfl⟩) ⟨as0.length, []⟩ fun b q hb => ⟨hb, rfl⟩
   rwa [killP_false] at this
 have ry : RepV w1.heap (fun b => S' b /\ dropR r ow b = none) (backR o' t (dropR r ow)) ⟨t, []⟩ v y := by
  have := hcl.move (S' := fun b => S' b /\ dropR r ow b = none) (h' := w1.heap) (o' := backR o' t (dropR r ow)) (fun _ => true) (fun b hb => ⟨hb, rfl⟩) (fun b m hb hk => by cases hk) ⟨t, []⟩ fun b q hb => ⟨by
   simp only [Loc.ext, List.nil_append] at hb ⊢
   simp [backR, hb], rfl⟩
  rwa [killP_noRef _ _ hny] at this
 have hshp : ∀ b m, ow b = some m -> (m.r == r) = false -> backR o' t (dropR r ow) b = some m /\ sameShape w.heap w1.heap b := fun b m hm hkm => by
  have h1 := dropR_ne hm (by simpa using hkm)
  exact ⟨hback b m h1, .of_eq (old b m h1).2⟩
 refine ⟨y, _, _, _, hK, s.world (fun l => l.r == r) (fun q => q = r) wo2 fr2 (fun b hb => ⟨⟨hfr.grow b (.inl hb), dnone b (s.wo.sh b hb).1⟩, (hoS b hb).2⟩) hshp ?_ ?_ (fun q hq => by simp only [if_neg hq]) (fun h => by omega), ry, fun b m hm => ?_, fun h => by cases h⟩
 ·intro q hq b p hb
  have h1 : dropR r ow b = some ⟨q, p⟩ := dropR_ne hb hq
  exact ⟨hback b _ h1, (old b _ h1).2⟩
 ·rintro q rfl _
  simp only [if_true]
  exact .inl (.inl rfl)
 ·rcases hcase b m hm with ⟨p, _, rfl⟩ | ⟨_, h⟩
  ·exact .inr rfl
  ·exact .inl ⟨b, m, (dropR_eq h).1, rfl⟩
def callTk (c : Ctx) (qt : Bool) (f : FuncId) (bs : List AVal) (e : Env) (K : AVal -> Env -> Prop) : Prop :=
 qt = false /\ ∃ (lend : Bool) (i r sz : Nat) (xs as0 : List AVal) (Post : AVal -> Prop), r < c.nt /\ c.keep.contains r = true /\ bs[i]? = some (.href ⟨r, []⟩ sz 0 xs.length) /\ e r = .lst true sz xs ∧
  snaps (fun l' => !lend || l'.r == r) e (bs.set i .undef) = some as0 /\ VTake c.g f as0 i sz xs Post ∧
  ∀ y, Post y -> (lend = true -> closedA y = true) /\ K y (fun q => if q = r then .undef else killP (fun l => l.r == r) (e q))
def callK (c : Ctx) (qt : Bool) (f : FuncId) (bs : List AVal) (e : Env) (K : AVal -> Env -> Prop) : Prop := callP c qt f bs e K \/ callT c qt f bs e K \/ callEl c qt f bs e K \/ callTk c qt f bs e K
end Go.VS
