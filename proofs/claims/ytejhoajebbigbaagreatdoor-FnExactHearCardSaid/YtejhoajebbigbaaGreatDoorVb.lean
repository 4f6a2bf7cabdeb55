/- VS, sixth part: what is moved when a value is stored. -/
import Derived.Test.YtejhoajebbigbaaGreatDoorVa
import Derived.Lib.FrozenHead
import Derived.Laws.StructEq
import Derived.Laws.BitsAllLaws
import Derived.Laws.Bits64
set_option linter.unusedVariables false
set_option linter.unusedSimpArgs false
namespace Go.VS
mutual
def refsOk (mvr : Nat -> Bool) : AVal -> Bool
 | .agg xs => refsOks mvr xs
 | .tup xs => refsOks mvr xs
 | .ptr true x => refsOk mvr x
 | .fn _ caps => refsOks mvr caps
 | .href l _ _ _ => !mvr l.r
 | .adr l _ _ _ => !mvr l.r
 | .mref l => !mvr l.r
 | _ => true
def refsOks (mvr : Nat -> Bool) : List AVal -> Bool
 | [] => true
 | x :: xs => refsOk mvr x && refsOks mvr xs
end
mutual
theorem killP_refsOk {mvr : Nat -> Bool} {K : Loc -> Bool} (h : ∀ m, mvr m.r = false -> K m = false) : ∀ x, refsOk mvr x = true -> killP K x = x
 | .agg xs, hx => by simp only [refsOk] at hx; simp only [killP, killPs_refsOk h xs hx]
 | .tup xs, hx => by simp only [refsOk] at hx; simp only [killP, killPs_refsOk h xs hx]
 | .ptr true x, hx => by simp only [refsOk] at hx; simp only [killP, killP_refsOk h x hx]
 | .fn f caps, hx => by simp only [refsOk] at hx; simp only [killP, killPs_refsOk h caps hx]
 | .href l _ _ _, hx => by simp only [refsOk, Bool.not_eq_true'] at hx; simp [killP, h l hx]
 | .adr l _ _ _, hx => by simp only [refsOk, Bool.not_eq_true'] at hx; simp [killP, h l hx]
 | .mref l, hx => by simp only [refsOk, Bool.not_eq_true'] at hx; simp [killP, h l hx]
 | .undef, _ => rfl
 | .lit _, _ => rfl
 | .ifc, _ => rfl
 | .lst _ _ _, _ => rfl
 | .ptr false _, _ => rfl
 | .mp _ _, _ => rfl
theorem killPs_refsOk {mvr : Nat -> Bool} {K : Loc -> Bool} (h : ∀ m, mvr m.r = false -> K m = false) : ∀ xs, refsOks mvr xs = true -> killPs K xs = xs
 | [], _ => rfl
 | x :: xs, hx => by
  simp only [refsOks, Bool.and_eq_true] at hx
  simp only [killPs, killP_refsOk h x hx.1, killPs_refsOk h xs hx.2]
end
mutual
theorem refsOk_noRef {mvr : Nat -> Bool} : ∀ x, noRef x = true -> refsOk mvr x = true
 | .agg xs, h => by simp only [noRef] at h; simp only [refsOk, refsOks_noRefs xs h]
 | .tup xs, h => by simp only [noRef] at h; simp only [refsOk, refsOks_noRefs xs h]
 | .ptr true x, h => by simp only [noRef] at h; simp only [refsOk, refsOk_noRef x h]
 | .ptr false _, _ => rfl
 | .fn _ caps, h => by simp only [noRef] at h; simp only [refsOk, refsOks_noRefs caps h]
 | .href .., h => by simp [noRef] at h
 | .adr .., h => by simp [noRef] at h
 | .mref _, h => by simp [noRef] at h
 | .undef, _ => rfl
 | .lit _, _ => rfl
 | .ifc, _ => rfl
 | .lst _ _ _, _ => rfl
 | .mp _ _, _ => rfl
theorem refsOks_noRefs {mvr : Nat -> Bool} : ∀ xs, noRefs xs = true -> refsOks mvr xs = true
 | [], _ => rfl
 | x :: xs, h => by
  simp only [noRefs, Bool.and_eq_true] at h
  simp only [refsOks, refsOk_noRef x h.1, refsOks_noRefs xs h.2, Bool.and_self]
end
mutual
def moveV (mvr : Nat -> Bool) : AVal -> Env -> Option (AVal × Env)
 | .agg xs, e => match moveVs mvr xs e with
  | some (ys, e') => some (.agg ys, e')
  | none => none
 | .href l sz lo n, e => if mvr l.r then
   match getE e l with
   | some (.lst true sz' xs) => if sz' = sz /\ lo = 0 /\ n <= xs.length then some (.lst true sz (xs.take n), takeE l e) else none
   | _ => none
  else some (.href l sz lo n, e)
 | .adr l i fs off, e => if mvr l.r then
   match getE e l with
   | some (.ptr true x) => if i = 0 /\ fs = [] /\ off = 0 /\ noRef x = true then some (.ptr true x, takeE l e) else none
   | _ => none
  else some (.adr l i fs off, e)
 | .mref l, e => if mvr l.r then
   match getE e l with
   | some (.mp true es) => some (.mp true es, takeE l e)
   | _ => none
  else some (.mref l, e)
 | .fn f caps, e => if refsOks mvr caps then some (.fn f caps, e) else none
 | .tup _, _ => none
 | .ptr true _, _ => none
 | .mp true _, _ => none
 | x, e => some (x, e)
def moveVs (mvr : Nat -> Bool) : List AVal -> Env -> Option (List AVal × Env)
 | [], e => some ([], e)
 | x :: xs, e => match moveV mvr x e with
  | some (y, e1) => match moveVs mvr xs e1 with
   | some (ys, e2) => some (y :: ys, e2)
   | none => none
  | none => none
end
variable {c : Ctx} {w0 : World} {S0 : Nat -> Prop} {o0 : Own} {cargs : Array Value} {e : Env} {a : Act} {w : World} {S : Nat -> Prop} {o : Own}
theorem noRefs_take {xs : List AVal} (n : Nat) (h : noRefs xs = true) : noRefs (xs.take n) = true := by
 rw [noRefs_all, List.all_eq_true] at h ⊢
 exact fun x hx => h x (List.mem_of_mem_take hx)
theorem Rep.stay {mvr : Nat -> Bool} {o' : Own} {h : Array Obj} (kp : ∀ b m, o b = some m -> mvr m.r = false -> o' b = some m) {l : Loc} {cs : List Value} {x : AVal} (r : Rep h S o l cs x) (hx : refsOk mvr x = true) {l' : Loc}
  (hO : ∀ b q, o b = some (l.ext q) -> o' b = some (l'.ext q)) : Rep h S o' l' cs x := by
 have := r.move (fun m => mvr m.r) (S' := S) (h' := h) (o' := o') (fun b h => ⟨h, rfl⟩) (fun b m hb hk => ⟨kp b m hb hk, .of_eq rfl⟩) l' fun b q hb => ⟨hO b q hb, rfl⟩
 rwa [killP_refsOk (mvr := mvr) (fun m h => h) x hx] at this
theorem Rep.lst_noRefs {h : Array Obj} {l : Loc} {cs : List Value} {sz : Nat} {xs : List AVal} (r : Rep h S o l cs (.lst true sz xs)) : noRefs xs = true := by
 rcases r.lst_inv with ⟨_, rfl⟩ | ⟨b, cap, cur, e, fr, _, _, _, _, _, _, _, h, _⟩
 ·rfl
 ·exact h
def ownAt (e : Env) (m : Loc) : Prop := ∃ y, getE e m = some y /\ ownNode y = true
theorem getP_killP_own {K : Loc -> Bool} : ∀ {p : List Step} {x y : AVal}, getP p (killP K x) = some y -> ownNode y = true -> ∃ z, getP p x = some z /\ ownNode z = true
 | [], x, y, h, ho => by
  simp only [getP, Option.some.injEq] at h
  subst h
  refine ⟨x, rfl, ?_⟩
  cases x <;> first | exact ho | skip
  case ptr own x => cases own <;> exact ho
  all_goals (simp only [killP] at ho; split at ho <;> simp [ownNode] at ho)
 | .fld k :: p, x, y, h, ho => by
  cases x
  case agg xs =>
   simp only [killP, getP] at h
   obtain ⟨z, hz, h⟩ := Option.bind_eq_some_iff.1 h
   rw [killPs_map, List.getElem?_map] at hz
   obtain ⟨u, hu, rfl⟩ := Option.map_eq_some_iff.1 hz
   obtain ⟨z, h1, h2⟩ := getP_killP_own h ho
   exact ⟨z, by simp [getP, hu, h1], h2⟩
  case tup xs =>
   simp only [killP, getP] at h
   obtain ⟨z, hz, h⟩ := Option.bind_eq_some_iff.1 h
   rw [killPs_map, List.getElem?_map] at hz
   obtain ⟨u, hu, rfl⟩ := Option.map_eq_some_iff.1 hz
   obtain ⟨z, h1, h2⟩ := getP_killP_own h ho
   exact ⟨z, by simp [getP, hu, h1], h2⟩
  case ptr own x => cases own <;> simp [killP, getP] at h
  all_goals (simp only [killP] at h; (try split at h) <;> simp [getP] at h)
 | .idx i :: p, x, y, h, ho => by
  cases x
  case lst own sz xs => exact ⟨y, h, ho⟩
  case ptr own x =>
   cases own with
   | false => exact ⟨y, h, ho⟩
   | true =>
    simp only [killP] at h
    cases i with
    | succ i => simp [getP] at h
    | zero =>
     simp only [getP] at h ⊢
     exact getP_killP_own h ho
  all_goals (simp only [killP] at h; (try split at h) <;> cases i <;> simp [getP] at h)
theorem getP_putP_own : ∀ {q p : List Step} {x y : AVal}, getP p (putP q .undef x) = some y -> ownNode y = true -> ∃ z, getP p x = some z /\ ownNode z = true
 | [], p, x, y, h, ho => by
  rw [putP] at h
  rw [getP_undef h] at ho
  cases ho
 | s :: q, [], x, y, h, ho => by
  simp only [getP, Option.some.injEq] at h
  subst h
  refine ⟨x, rfl, ?_⟩
  cases s with
  | fld k => cases x <;> exact ho
  | idx i =>
   cases x
   case lst own sz xs => cases own <;> cases i <;> exact ho
   case ptr own x => cases own <;> cases i <;> exact ho
   all_goals (cases i <;> exact ho)
 | .fld k :: q, .fld j :: p, x, y, h, ho => by
  cases x <;> simp only [putP, getP] at h <;> try (cases h; done)
  all_goals
   obtain ⟨z, hz, h⟩ := Option.bind_eq_some_iff.1 h
   by_cases hj : j = k
   ·subst hj
    rw [List.getElem?_modify_eq] at hz
    obtain ⟨u, hu, rfl⟩ := Option.map_eq_some_iff.1 hz
    obtain ⟨z, h1, h2⟩ := getP_putP_own h ho
    exact ⟨z, by simp [getP, hu, h1], h2⟩
   ·rw [List.getElem?_modify_ne _ _ (Ne.symm hj)] at hz
    exact ⟨y, by simp [getP, hz, h], ho⟩
 | .fld k :: q, .idx j :: p, x, y, h, ho => by
  cases x
  case lst => exact ⟨y, h, ho⟩
  case ptr => exact ⟨y, h, ho⟩
  all_goals (cases j <;> simp [putP, getP] at h)
 | .idx k :: q, .fld j :: p, x, y, h, ho => by
  cases x
  case agg => cases k <;> exact ⟨y, h, ho⟩
  case tup => cases k <;> exact ⟨y, h, ho⟩
  all_goals (cases k <;> simp [putP, getP] at h)
 | .idx k :: q, .idx j :: p, x, y, h, ho => by
  cases x
  case lst own sz xs =>
   simp only [putP, getP] at h
   obtain ⟨z, hz, h⟩ := Option.bind_eq_some_iff.1 h
   by_cases hj : j = k
   ·subst hj
    rw [List.getElem?_modify_eq] at hz
    obtain ⟨u, hu, rfl⟩ := Option.map_eq_some_iff.1 hz
    obtain ⟨z, h1, h2⟩ := getP_putP_own h ho
    exact ⟨z, by simp [getP, hu, h1], h2⟩
   ·rw [List.getElem?_modify_ne _ _ (Ne.symm hj)] at hz
    exact ⟨y, by simp [getP, hz, h], ho⟩
  case ptr own x =>
   cases k with
   | succ k => exact ⟨y, h, ho⟩
   | zero =>
    cases j with
    | succ j => simp [putP, getP] at h
    | zero =>
     simp only [putP, getP] at h ⊢
     exact getP_putP_own h ho
  all_goals (cases k <;> cases j <;> simp [putP, getP] at h)
theorem ownAt_take {l m : Loc} (h : ownAt (takeE l e) m) : ownAt e m := by
 obtain ⟨y, hg, ho⟩ := h
 unfold getE takeE at hg
 split at hg
 ·obtain ⟨z, h1, h2⟩ := getP_putP_own hg ho
  obtain ⟨z, h1, h2⟩ := getP_killP_own h1 h2
  exact ⟨z, h1, h2⟩
 ·obtain ⟨z, h1, h2⟩ := getP_killP_own hg ho
  exact ⟨z, h1, h2⟩
theorem getP_append {q : List Step} : ∀ {p : List Step} {x : AVal}, getP (p ++ q) x = (getP p x).bind (getP q)
 | [], x => rfl
 | .fld k :: p, x => by
  cases x <;> simp only [List.cons_append, getP, Option.bind_none]
  all_goals (rename_i xs; cases xs[k]? <;> simp [getP_append])
 | .idx k :: p, x => by
  cases x
  case lst own sz xs => simp only [List.cons_append, getP]; cases xs[k]? <;> simp [getP_append]
  case ptr own x => cases k <;> simp [getP, getP_append]
  all_goals (cases k <;> simp [getP])
theorem getP_putP_self : ∀ {p : List Step} {x y z : AVal}, getP p (putP p y x) = some z -> z = y
 | [], x, y, z, h => by simpa [getP, putP] using h.symm
 | .fld k :: p, x, y, z, h => by
  cases x <;> simp only [putP, getP] at h <;> try (cases h; done)
  all_goals
   obtain ⟨u, hu, h⟩ := Option.bind_eq_some_iff.1 h
   rw [List.getElem?_modify_eq] at hu
   obtain ⟨v, hv, rfl⟩ := Option.map_eq_some_iff.1 hu
   exact getP_putP_self h
 | .idx k :: p, x, y, z, h => by
  cases x
  case lst own sz xs =>
   simp only [putP, getP] at h
   obtain ⟨u, hu, h⟩ := Option.bind_eq_some_iff.1 h
   rw [List.getElem?_modify_eq] at hu
   obtain ⟨v, hv, rfl⟩ := Option.map_eq_some_iff.1 hu
   exact getP_putP_self h
  case ptr own x =>
   cases k with
   | succ k => simp [putP, getP] at h
   | zero => simp only [putP, getP] at h; exact getP_putP_self h
  all_goals (cases k <;> simp [putP, getP] at h)
mutual
theorem moveV_sound {mvr : Nat -> Bool} {oo : Own} {l0 t : Loc} (hmt : mvr t.r = false) (htr : t.r <= c.nt) (c0 : clear oo l0) :
  ∀ (x : AVal) {cs : List Value} {e : Env} {o : Own}, St c w0 S0 o0 cargs e a w S o -> clear o t -> (∀ b m, oo b = some m -> mvr m.r = false -> o b = some m) -> (∀ b m, oo b = some m -> o b = some m \/ ¬ ownAt e m) -> Rep w.heap S oo l0 cs x →
  ∀ {x' : AVal} {e' : Env}, moveV mvr x e = some (x', e') →
  ∃ o', St c w0 S0 o0 cargs e' a w S o' /\ Rep w.heap S o' t cs x' /\ newAt o o' t /\ (∀ b m, o b = some m -> mvr m.r = false -> o' b = some m) /\ refsOk mvr x' = true ∧
   (∀ b m, o b = some m -> o' b = some m \/ ¬ ownAt e' m) /\ (∀ m, ownAt e' m -> ownAt e m) := by
 intro x cs e o s ct kp kq r x' e' hm
 have same : ∀ {y}, y = x -> refsOk mvr y = true -> some (y, e) = some (x', e') -> ∃ o', St c w0 S0 o0 cargs e' a w S o' /\ Rep w.heap S o' t cs x' /\ newAt o o' t /\ (∀ b m, o b = some m -> mvr m.r = false -> o' b = some m) ∧
   refsOk mvr x' = true /\ (∀ b m, o b = some m -> o' b = some m \/ ¬ ownAt e' m) /\ (∀ m, ownAt e' m -> ownAt e m) := by
  intro y hy hr hm
  cases hm
  subst hy
  exact ⟨o, s, r.stay kp hr fun b q hb => absurd hb (c0 b q), newAt.refl _ _, fun _ _ h _ => h, hr, fun _ _ h => .inl h, fun _ h => h⟩
 have took : ∀ {l : Loc} {y : AVal} {v : Value}, getE e l = some y -> ownNode y = true -> mvr l.r = true -> cs = [v] -> noRef x' = true -> Rep w.heap S o l [v] x' -> e' = takeE l e →
   ∃ o', St c w0 S0 o0 cargs e' a w S o' /\ Rep w.heap S o' t cs x' /\ newAt o o' t /\ (∀ b m, o b = some m -> mvr m.r = false -> o' b = some m) ∧
   refsOk mvr x' = true /\ (∀ b m, o b = some m -> o' b = some m \/ ¬ ownAt e' m) /\ (∀ m, ownAt e' m -> ownAt e m) := by
  rintro l y v hg ho hmv rfl hn hr rfl
  obtain ⟨s', hrep⟩ := s.take hg ho ct htr
  have hq' := hrep _ _ hr
  rw [killP_noRef _ _ hn] at hq'
  refine ⟨_, s', hq', movO_newAt, fun b m hb hm => movO_ne hb fun ⟨h, _⟩ => ?_, refsOk_noRef _ hn, fun b m hb => ?_, fun m h => ownAt_take h⟩
  ·rw [h, hmv] at hm
   cases hm
  ·by_cases h : m.r = l.r /\ l.p <+: m.p
   ·right
    rintro ⟨z, hz, hoz⟩
    obtain ⟨h1, q, h2⟩ := h
    unfold getE takeE at hz
    rw [if_pos h1, <- h2, getP_append] at hz
    obtain ⟨u, hu, hz⟩ := Option.bind_eq_some_iff.1 hz
    rw [getP_putP_self hu] at hz
    rw [getP_undef hz] at hoz
    cases hoz
   ·exact .inl (movO_ne hb h)
 cases x with
 | agg xs =>
  simp only [moveV] at hm
  split at hm
  ·rename_i ys e1 hms
   cases hm
   obtain ⟨css, h1, rfl, h2⟩ := r.agg_inv
   obtain ⟨o', s', hl, rr, n', k', hr, k2, k3⟩ := moveVs_sound hmt htr c0 .fld (fun _ _ h => by simpa using h) 0 xs css h1.symm s (fun j _ => ct.down [.fld j]) kp kq (fun i c x hc hx => by simpa using h2 i c x hc hx) hms
   exact ⟨o', s', .agg (by omega) (fun i c x hc hx => by have := rr i c x hc hx; rwa [Nat.zero_add, Loc.ext_fld] at this), n'.at, k', by simpa [refsOk] using hr, k2, k3⟩
  ·cases hm
 | href l sz lo n =>
  simp only [moveV] at hm
  split at hm
  ·rename_i hmv
   split at hm
   ·rename_i sz' xs hg
    split at hm
    ·rename_i hc
     obtain ⟨rfl, rfl, hle⟩ := hc
     cases hm
     obtain ⟨cn, rn⟩ := (s.env l.r).node (p := l.p) hg rfl
     have el : (⟨l.r, []⟩ : Loc).ext l.p = l := by simp [Loc.ext]
     rw [el] at rn
     have hq : ∃ v, cs = [v] /\ Rep w.heap S o l [v] (.lst true sz' (xs.take n)) := by
      rcases r.href_inv with ⟨hv, _, rfl⟩ | ⟨b, cap, cur, t1, fr, hv, h1, h2, h3, h4, h5, h6⟩
      ·exact ⟨_, hv, by rw [List.take_zero]; exact .nil⟩
      ·refine ⟨_, hv, ?_⟩
       have hob : o b = some l := (kq b l h2).resolve_right fun h => h ⟨_, hg, rfl⟩
       exact Rep.of_href s.wo.inj rn (l' := l0) (lo := 0) (.href h1 hob h3 h4 h5 h6) rfl hle
     obtain ⟨v, hv, hq⟩ := hq
     exact took hg rfl hmv hv (by simp only [noRef]; exact noRefs_take n rn.lst_noRefs) hq rfl
    ·cases hm
   ·cases hm
  ·rename_i hmv
   exact same rfl (by simpa [refsOk] using hmv) hm
 | adr l i fs off =>
  simp only [moveV] at hm
  split at hm
  ·rename_i hmv
   split at hm
   ·rename_i x hg
    split at hm
    ·rename_i hc
     obtain ⟨rfl, rfl, rfl, hnr⟩ := hc
     cases hm
     obtain ⟨cn, rn⟩ := (s.env l.r).node (p := l.p) hg rfl
     have el : (⟨l.r, []⟩ : Loc).ext l.p = l := by simp [Loc.ext]
     rw [el] at rn
     obtain ⟨b, cur, t1, fr, hv, h1, h2⟩ := r.adr_inv
     have hob : o b = some l := (kq b l h2).resolve_right fun h => h ⟨_, hg, rfl⟩
     obtain ⟨b', cur', t2, fr', rfl, g1, g2, g3, g4⟩ := rn.ptr_inv
     obtain rfl := s.wo.inj _ _ _ hob g2
     exact took hg rfl hmv hv (by simpa [noRef] using hnr) (.ptr g1 g2 g3 g4) rfl
    ·cases hm
   ·cases hm
  ·rename_i hmv
   exact same rfl (by simpa [refsOk] using hmv) hm
 | mref l =>
  simp only [moveV] at hm
  split at hm
  ·rename_i hmv
   split at hm
   ·rename_i es hg
    cases hm
    obtain ⟨cn, rn⟩ := (s.env l.r).node (p := l.p) hg rfl
    have el : (⟨l.r, []⟩ : Loc).ext l.p = l := by simp [Loc.ext]
    rw [el] at rn
    obtain ⟨b, ms, k1, hv, h1, h2⟩ := r.mref_inv
    have hob : o b = some l := (kq b l h2).resolve_right fun h => h ⟨_, hg, rfl⟩
    obtain ⟨b', ms', k2, rfl, g1, g2, rfl⟩ := rn.mp_inv
    obtain rfl := s.wo.inj _ _ _ hob g2
    exact took hg rfl hmv hv rfl (.mp g1 g2) rfl
   ·cases hm
  ·rename_i hmv
   exact same rfl (by simpa [refsOk] using hmv) hm
 | fn f caps =>
  simp only [moveV] at hm
  split at hm
  ·rename_i h
   exact same rfl (by simpa [refsOk] using h) hm
  ·cases hm
 | tup xs => simp [moveV] at hm
 | ptr own x =>
  cases own with
  | true => simp [moveV] at hm
  | false => exact same rfl rfl hm
 | mp own es =>
  cases own with
  | true => simp [moveV] at hm
  | false => exact same rfl rfl hm
 | lst own sz xs => exact same rfl rfl hm
 | undef => exact same rfl rfl hm
 | lit v => exact same rfl rfl hm
 | ifc => exact same rfl rfl hm
theorem moveVs_sound {mvr : Nat -> Bool} {oo : Own} {l0 t : Loc} (hmt : mvr t.r = false) (htr : t.r <= c.nt) (c0 : clear oo l0) :
  ∀ (st : Nat -> Step) (hst : ∀ i j, st i = st j -> i = j) (k : Nat) (xs : List AVal) (css : List (List Value)), xs.length = css.length -> ∀ {e : Env} {o : Own}, St c w0 S0 o0 cargs e a w S o -> (∀ j, k <= j -> clear o (t.ext [st j])) →
  (∀ b m, oo b = some m -> mvr m.r = false -> o b = some m) -> (∀ b m, oo b = some m -> o b = some m \/ ¬ ownAt e m) →
  (∀ (i : Nat) (c : List Value) (x : AVal), css[i]? = some c -> xs[i]? = some x -> Rep w.heap S oo (l0.fld (k + i)) c x) →
  ∀ {ys : List AVal} {e' : Env}, moveVs mvr xs e = some (ys, e') →
  ∃ o', St c w0 S0 o0 cargs e' a w S o' /\ ys.length = css.length /\ (∀ (i : Nat) (c : List Value) (y : AVal), css[i]? = some c -> ys[i]? = some y -> Rep w.heap S o' (t.ext [st (k + i)]) c y) /\ newBelow o o' t ∧
   (∀ b m, o b = some m -> mvr m.r = false -> o' b = some m) /\ refsOks mvr ys = true /\ (∀ b m, o b = some m -> o' b = some m \/ ¬ ownAt e' m) /\ (∀ m, ownAt e' m -> ownAt e m) := by
 intro st hst k xs css hl e o s ct kp kq r ys e' hm
 cases xs with
 | nil =>
  simp only [moveVs] at hm
  cases hm
  exact ⟨o, s, hl, fun i c y _ h => by simp at h, fun _ _ h => .inl h, fun _ _ h _ => h, rfl, fun _ _ h => .inl h, fun _ h => h⟩
 | cons x xs =>
  cases css with
  | nil => simp at hl
  | cons cx css =>
   simp only [moveVs] at hm
   split at hm
   ·rename_i y e1 h1
    split at hm
    ·rename_i ys' e2 h2
     cases hm
     obtain ⟨o1, s1, r1, n1, p1, f1, q1, g1⟩ := moveV_sound (oo := oo) (l0 := l0.fld k) (t := t.ext [st k]) hmt htr (c0.down [.fld k]) x s (ct k (Nat.le_refl _)) kp kq (by simpa using r 0 cx x rfl rfl) h1
     obtain ⟨o2, s2, l2, r2, n2, p2, f2, q2, g2⟩ := moveVs_sound (oo := oo) (l0 := l0) (t := t) hmt htr c0 st hst (k + 1) xs css (by simpa using hl) s1
      (fun j hj b q hb => by
       rcases n1 _ _ hb with h | ⟨q', h⟩
       ·exact ct j (by omega) b q h
       ·rw [Loc.ext_ext, Loc.ext_ext] at h
        have := Loc.ext_inj h
        simp only [List.cons_append, List.nil_append, List.cons.injEq] at this
        have := hst _ _ this.1
        omega)
      (fun b m h h' => p1 b m (kp b m h h') h')
      (fun b m h => (kq b m h).elim (q1 b m) fun h' => .inr fun h'' => h' (g1 m h''))
      (fun i c x hc hx => by simpa [Nat.add_assoc, Nat.add_comm 1] using r (i + 1) c x (by simpa using hc) (by simpa using hx)) h2
     refine ⟨o2, s2, by simp [l2], fun i c y hc hy => ?_, (newAt.below n1).trans n2, fun b m h h' => p2 b m (p1 b m h h') h', by simp [refsOks, f1, f2],
      fun b m h => (q1 b m h).elim (q2 b m) fun h' => .inr fun h'' => h' (g2 m h''), fun m h => g1 m (g2 m h)⟩
     cases i with
     | zero =>
      simp at hc hy
      subst hc hy
      refine r1.stay p2 f1 fun b q hb => ?_
      exact p2 b _ hb hmt
     | succ i => simpa [Nat.add_assoc, Nat.add_comm 1] using r2 i c y (by simpa using hc) (by simpa using hy)
    ·cases hm
   ·cases hm
end
end Go.VS
/- VS, seventh part: a store. -/
set_option linter.unusedVariables false
set_option linter.unusedSimpArgs false
namespace Go.VS
variable {c : Ctx} {w0 : World} {S0 : Nat -> Prop} {o0 : Own} {cargs : Array Value} {e : Env} {a : Act} {w : World} {S : Nat -> Prop} {o : Own}
mutual
def blank : AVal -> AVal
 | .agg xs => .agg (blanks xs)
 | .lst true _ _ => .undef
 | .ptr true _ => .undef
 | .mp true _ => .undef
 | .fn f caps => .fn f (blanks caps)
 | x => x
def blanks : List AVal -> List AVal
 | [] => []
 | x :: xs => blank x :: blanks xs
end
theorem blanks_map : ∀ xs, blanks xs = xs.map blank
 | [] => rfl
 | x :: xs => by simp [blanks, blanks_map xs]
mutual
theorem blank_w : ∀ x, (blank x).w = x.w
 | .agg xs => by simp only [blank, AVal.w, blanks_w xs]
 | .tup _ => rfl
 | .ptr true _ => rfl
 | .ptr false _ => rfl
 | .fn _ _ => rfl
 | .href .. => rfl
 | .adr .. => rfl
 | .mref _ => rfl
 | .undef => rfl
 | .lit _ => rfl
 | .ifc => rfl
 | .lst true _ _ => rfl
 | .lst false _ _ => rfl
 | .mp true _ => rfl
 | .mp false _ => rfl
theorem blanks_w : ∀ xs, AVal.ws (blanks xs) = AVal.ws xs
 | [] => rfl
 | x :: xs => by simp only [blanks, AVal.ws, blank_w x, blanks_w xs]
end
mutual
theorem noRef_blank : ∀ x, noRef x = true -> noRef (blank x) = true
 | .agg xs, h => by simp only [noRef] at h; simp only [blank, noRef, noRefs_blanks xs h]
 | .tup _, h => h
 | .ptr true _, _ => rfl
 | .ptr false _, h => h
 | .fn _ caps, h => by simp only [noRef] at h; simp only [blank, noRef, noRefs_blanks caps h]
 | .href .., h => h
 | .adr .., h => h
 | .mref _, h => h
 | .undef, _ => rfl
 | .lit _, _ => rfl
 | .ifc, _ => rfl
 | .lst true _ _, _ => rfl
 | .lst false _ _, h => h
 | .mp true _, _ => rfl
 | .mp false _, _ => rfl
theorem noRefs_blanks : ∀ xs, noRefs xs = true -> noRefs (blanks xs) = true
 | [], _ => rfl
 | x :: xs, h => by
  simp only [noRefs, Bool.and_eq_true] at h
  simp only [blanks, noRefs, noRef_blank x h.1, noRefs_blanks xs h.2, Bool.and_self]
end
mutual
theorem noRef_killP (K : Loc -> Bool) : ∀ x, noRef x = true -> noRef (killP K x) = true
 | x, h => by rw [killP_noRef K x h]; exact h
end
theorem Rep.blank {h : Array Obj} {K : Loc -> Bool} {o' : Own} (hR : ∀ b m, o b = some m -> K m = false -> o' b = some m) {l : Loc} {cs : List Value} {x : AVal} (r : Rep h S o l cs x) :
  ∀ l', Rep h S o' l' cs (killP K (VS.blank x)) := by
 have sh : ∀ {cs x}, RepS h S cs x -> ∀ l', Rep h S o' l' cs (killP K (VS.blank x)) := by
  clear r
  intro cs x a
  induction a with
  | agg a _ ih =>
   intro l'
   simp only [VS.blank, killP]
   refine .agg (by rw [killPs_map, blanks_map]; simpa using a) fun i c x hc hx => ?_
   rw [killPs_map, blanks_map, List.map_map, List.getElem?_map] at hx
   obtain ⟨y, hy, rfl⟩ := Option.map_eq_some_iff.1 hx
   exact ih i c y hc hy _
  | fn a _ ih =>
   intro l'
   simp only [VS.blank, killP]
   refine .fn (by rw [killPs_map, blanks_map]; simpa using a) fun i c x hc hx => ?_
   rw [killPs_map, blanks_map, List.map_map, List.getElem?_map] at hx
   obtain ⟨y, hy, rfl⟩ := Option.map_eq_some_iff.1 hx
   exact ih i c y hc hy _
  | undef a => exact fun _ => .shd (.undef a)
  | lit a => exact fun _ => .shd (.lit a)
  | ifc => exact fun _ => .shd .ifc
  | emp a => exact fun _ => .shd (.emp a)
  | lst a b c d e f _ => exact fun _ => .shd (.lst a b c d e f)
  | ptr a b c d _ => exact fun _ => .shd (.ptr a b c d)
  | mp a b => exact fun _ => .shd (.mp a b)
  | mpNil => exact fun _ => .shd .mpNil
 induction r with
 | shd a => exact sh a
 | agg a _ ih =>
  intro l'
  simp only [VS.blank, killP]
  refine .agg (by rw [killPs_map, blanks_map]; simpa using a) fun i c x hc hx => ?_
  rw [killPs_map, blanks_map, List.map_map, List.getElem?_map] at hx
  obtain ⟨y, hy, rfl⟩ := Option.map_eq_some_iff.1 hx
  exact ih i c y hc hy _
 | fn a _ ih =>
  intro l'
  simp only [VS.blank, killP]
  refine .fn (by rw [killPs_map, blanks_map]; simpa using a) fun i c x hc hx => ?_
  rw [killPs_map, blanks_map, List.map_map, List.getElem?_map] at hx
  obtain ⟨y, hy, rfl⟩ := Option.map_eq_some_iff.1 hx
  exact ih i c y hc hy _
 | nil => exact fun _ => .undef rfl
 | lst => exact fun _ => .undef rfl
 | ptr => exact fun _ => .undef rfl
 | mp => exact fun _ => .undef rfl
 | hrefN =>
  intro l'
  simp only [VS.blank, killP]
  split
  ·exact .undef rfl
  ·exact .hrefN
 | href a b c e f g =>
  intro l'
  simp only [VS.blank, killP]
  split
  ·exact .undef rfl
  ·rename_i hd
   exact .href a (hR _ _ b (by simpa using hd)) c e f g
 | adr a b =>
  intro l'
  simp only [VS.blank, killP]
  split
  ·exact .undef rfl
  ·rename_i hd
   exact .adr a (hR _ _ b (by simpa using hd))
 | mref a b =>
  intro l'
  simp only [VS.blank, killP]
  split
  ·exact .undef rfl
  ·rename_i hd
   exact .mref a (hR _ _ b (by simpa using hd))
def setAt (l : Loc) (i : Nat) (fs : List Nat) (y : AVal) (K : Loc -> Bool) (e : Env) : Env :=
 match getE e l with
 | some node => fun r => if r = l.r then putP l.p (nodePut i fs y K node) (killP K (e r)) else killP K (e r)
 | none => e
def isPtr : AVal -> Bool
 | .ptr _ _ => true
 | _ => false
theorem St.setAtG (s : St c w0 S0 o0 cargs e a w S o) {l : Loc} {i : Nat} {fs : List Nat} {node : AVal} (hg : getE e l = some node) {off : Nat} {y y' : AVal} (hy : nodeAt i fs node = some (off, y)) (hw : y'.w = y.w)
  (hn : noRef y' = true \/ isPtr node = true) (hv : viaLst l.p (e l.r) = false \/ (noRef y' = true /\ noRef node = true)) {w' : World} {S' : Nat -> Prop} {o' : Own} {K : Loc -> Bool} {cy : List Value} (wo : Wo c.g c.nt w' S' o') (fr : Fr w0 S0 o0 w' S' o')
  (hS : ∀ b, S b -> S' b /\ w'.heap[b]? = w.heap[b]?) (hO : ∀ b m, o b = some m -> o' b = some m \/ (o' b = none /\ ∃ q, m = ((l.idx i).flds fs).ext q)) (hK : ∀ b m, o b = some m -> K m = false -> o' b = some m)
  (ry : Rep w'.heap S' o' ((l.idx i).flds fs) cy y')
  (hb : ∀ b m, o b = some m -> m ≠ l -> w'.heap[b]? = w.heap[b]?)
  (hh : ∀ b cur e fr, o b = some l -> w.heap[b]? = some (.cells cur e fr) -> ∃ cur', w'.heap[b]? = some (.cells cur' e fr) /\ cur'.toList = spliced cur off cy) :
  St c w0 S0 o0 cargs (VS.setAt l i fs y' K e) a w' S' o' := by
 have hno : ownNode node = true := by
  unfold nodeAt at hy
  split at hy <;> first | rfl | cases hy
 have hl : l.r ≠ c.nt := fun h => by
  unfold getE at hg
  rw [h, s.lim] at hg
  rw [getP_undef hg] at hno
  cases hno
 have shape : ∀ b m, o b = some m -> sameShape w.heap w'.heap b := fun b m hm => by
  by_cases h : o b = some l
  ·refine ⟨fun cur t fz hc => ?_, fun es k hc => ?_⟩
   ·obtain ⟨cur', h1, h2⟩ := hh b cur t fz h hc
    refine ⟨cur', h1, ?_⟩
    obtain ⟨cn, rn⟩ := (s.env l.r).node (p := l.p) hg hno
    have el : (⟨l.r, []⟩ : Loc).ext l.p = l := by simp [Loc.ext]
    rw [el] at rn
    rw [<- Array.length_toList, h2, spliced_length]
    have hcy : cy.length = y.w := by rw [ry.len, hw]
    rw [hcy]
    cases node with
    | lst own sz xs =>
     cases own with
     | false => simp [ownNode] at hno
     | true =>
      rcases rn.lst_inv with ⟨_, rfl⟩ | ⟨b', cap, cur1, e1, fr1, rfl, hb1, ho1, hfr, hsz, hlen, hcap, hnr, hm1⟩
      ·simp [nodeAt] at hy
      ·obtain rfl := s.wo.inj _ _ _ h ho1
       rw [hc] at hb1
       cases hb1
       simp only [nodeAt] at hy
       split at hy
       ·rename_i x hx
        split at hy
        ·rename_i off' y0 hy0
         simp only [Option.some.injEq, Prod.mk.injEq] at hy
         obtain ⟨rfl, rfl⟩ := hy
         have rx := hm1 i x hx
         have h3 := (rx.getF hy0).1
         have h4 := rx.len
         have hi : i < xs.length := (List.getElem?_eq_some_iff.1 hx).1
         have : (i + 1) * sz <= cap * sz := Nat.mul_le_mul_right _ (by omega)
         rw [Nat.add_mul, Nat.one_mul] at this
         simp at h3 h4
         omega
        ·cases hy
       ·cases hy
    | ptr own x =>
     cases own with
     | false => simp [ownNode] at hno
     | true =>
      obtain ⟨b', cur1, e1, fr1, rfl, hb1, ho1, hfr, rx⟩ := rn.ptr_inv
      obtain rfl := s.wo.inj _ _ _ h ho1
      rw [hc] at hb1
      cases hb1
      simp only [nodeAt] at hy
      split at hy
      ·have h3 := (rx.getF hy).1
       simp at h3
       omega
      ·cases hy
    | _ => simp [nodeAt] at hy
   ·obtain ⟨cn, rn⟩ := (s.env l.r).node (p := l.p) hg hno
    have el : (⟨l.r, []⟩ : Loc).ext l.p = l := by simp [Loc.ext]
    rw [el] at rn
    cases node with
    | lst own sz xs =>
     cases own with
     | false => simp [ownNode] at hno
     | true =>
      rcases rn.lst_inv with ⟨_, rfl⟩ | ⟨b', cap, cur1, e1, fr1, rfl, hb1, ho1, _⟩
      ·simp [nodeAt] at hy
      ·obtain rfl := s.wo.inj _ _ _ h ho1
       rw [hc] at hb1
       cases hb1
    | ptr own x =>
     cases own with
     | false => simp [ownNode] at hno
     | true =>
      obtain ⟨b', cur1, e1, fr1, rfl, hb1, ho1, hfr, rx⟩ := rn.ptr_inv
      obtain rfl := s.wo.inj _ _ _ h ho1
      rw [hc] at hb1
      cases hb1
    | _ => simp [nodeAt] at hy
  ·exact .of_eq (hb b m hm fun e => h (e ▸ hm))
 have hR : ∀ b m, o b = some m -> K m = false -> o' b = some m /\ sameShape w.heap w'.heap b := fun b m hm hk => ⟨hK b m hm hk, shape b m hm⟩
 have under : ∀ b q, o b = some (l.ext q) -> ¬ (.idx i :: fs.map .fld) <+: q -> o' b = some (l.ext q) := fun b q hm hq =>
  (hO b _ hm).elim id fun ⟨_, q', h⟩ => by
   exfalso
   apply hq
   rw [Loc.flds, Loc.ext_ext, Loc.idx_ext] at h
   rw [Loc.ext_inj h]
   exact ⟨q', by simp⟩
 have hset : VS.setAt l i fs y' K e = fun r => if r = l.r then putP l.p (nodePut i fs y' K node) (killP K (e r)) else killP K (e r) := by simp [VS.setAt, hg]
 rw [hset]
 have kin : KeptIn w.heap w'.heap S S' o o' K l i fs :=
  ⟨hS, hR, fun b q hm hq hq' => ⟨under b q hm hq', hb b _ hm fun h => hq (Loc.ext_inj (l := l) (by rw [h, Loc.ext_nil]))⟩, fun b hm => by
    have := under b [] (by rw [Loc.ext_nil]; exact hm) (by simp)
    rwa [Loc.ext_nil] at this⟩
 refine s.world K (fun r => r = l.r) wo fr hS hR ?_ ?_ ?_ (fun h => hl h.symm)
 ·intro r hr b p hm
  refine ⟨(hO b _ hm).elim id fun ⟨_, q', h⟩ => ?_, hb b _ hm fun h => ?_⟩
  ·exact absurd (congrArg Loc.r h) hr
  ·exact hr (congrArg Loc.r h)
 ·rintro r rfl _
  rw [if_pos rfl]
  refine (s.env l.r).deep hg hno ?_ ?_ (fun cn hc => ?_) ⟨hS, hR, fun b q hm hq => ?_⟩
  ·unfold nodePut
   split <;> first | rfl | (cases node <;> simp_all [ownNode, isAggA])
  ·rcases hv with hv | ⟨h1, h2⟩
   ·exact .inr hv
   ·left
    unfold nodePut
    split
    ·simp only [noRef] at h2 ⊢
     exact noRefs_modify h2 fun z hz => noRef_putF (noRefs_get h2 hz) h1
    ·simp only [noRef] at h2 ⊢
     exact noRef_putF (by rw [killP_noRef _ _ h2]; exact h2) h1
    ·exact h2
  ·have el : (⟨l.r, []⟩ : Loc).ext l.p = l := by simp [Loc.ext]
   rw [el] at hc ⊢
   exact hc.store hy hw (hn.imp id fun h => by cases node <;> simp_all [isPtr]) kin ry hh
  ·have el : (⟨l.r, []⟩ : Loc).ext q = ⟨l.r, q⟩ := by simp [Loc.ext]
   rw [el] at hm ⊢
   refine ⟨(hO b _ hm).elim id fun ⟨_, q', h⟩ => ?_, hb b _ hm fun h => ?_⟩
   ·exfalso
    apply hq
    have := congrArg Loc.p h
    simp only [Loc.flds, Loc.ext, Loc.idx] at this
    rw [this]
    exact ⟨.idx i :: fs.map .fld ++ q', by simp⟩
   ·apply hq
    have := congrArg Loc.p h
    simp only at this
    rw [this]
    exact List.prefix_refl _
 ·intro r hr
  rw [if_neg hr]
theorem St.setAt (s : St c w0 S0 o0 cargs e a w S o) {l : Loc} {i : Nat} {fs : List Nat} {node : AVal} (hg : getE e l = some node) {off : Nat} {y y' : AVal} (hy : nodeAt i fs node = some (off, y)) (hw : y'.w = y.w)
  (hn : noRef y' = true \/ isPtr node = true) (hv : viaLst l.p (e l.r) = false \/ (noRef y' = true /\ noRef node = true)) {w' : World} {o' : Own} {K : Loc -> Bool} {cy : List Value} (wo : Wo c.g c.nt w' S o') (fr : Fr w0 S0 o0 w' S o')
  (hS : ∀ b, S b -> w'.heap[b]? = w.heap[b]?) (hO : ∀ b m, o b = some m -> o' b = some m \/ (o' b = none /\ ∃ q, m = ((l.idx i).flds fs).ext q)) (hK : ∀ b m, o b = some m -> K m = false -> o' b = some m)
  (ry : Rep w'.heap S o' ((l.idx i).flds fs) cy y')
  (hb : ∀ b, o b ≠ some l -> w'.heap[b]? = w.heap[b]?)
  (hh : ∀ b cur e fr, o b = some l -> w.heap[b]? = some (.cells cur e fr) -> ∃ cur', w'.heap[b]? = some (.cells cur' e fr) /\ cur'.toList = spliced cur off cy) :
  St c w0 S0 o0 cargs (VS.setAt l i fs y' K e) a w' S o' :=
 s.setAtG hg hy hw hn hv wo fr (fun b h => ⟨h, hS b h⟩) hO hK ry (fun b m hm hne => hb b fun h => hne (by rw [hm] at h; exact Option.some.inj h)) hh
theorem run_storeCells_fr (P : Program) (g o : Nat) (t : TypeId) (fz : Nat × Nat) : ∀ (vs : List Value) (i : Nat) (cur : Array Value) (w : World), w.heap[g]? = some (.cells cur t fz) -> frOk fz cur.size -> o + i + vs.length <= cur.size -> (∀ v ∈ vs, v.oneCell' = true) →
  (storeCells ⟨g, o, none⟩ vs i).run P w = .ok () (w.setRow g (spliced cur (o + i) vs).toArray)
 | [], i, cur, w, hg, _, _, _ => by
  simp only [storeCells, spliced, List.append_nil, List.length_nil, Nat.add_zero, List.take_append_drop, Array.toArray_toList]
  rw [setRow_self w g cur t fz hg]
  rfl
 | v :: rest, i, cur, w, hg, hfz, hl, h1 => by
  have hi : o + i < cur.size := by simp at hl; omega
  have hadd : (⟨g, o, none⟩ : Addr).add i = ⟨g, o + i, none⟩ := by unfold Addr.add; split <;> simp_all
  have hcell : w.cell? ⟨g, o + i, none⟩ = some cur[o + i] := by simp [World.cell?, hg, hi]
  have hfro : w.frozen? ⟨g, o + i, none⟩ = false := by
   have := hfz (o + i) hi
   obtain ⟨lo, hi'⟩ := fz
   simp only [World.frozen?, hg, Bool.and_eq_false_iff, decide_eq_false_iff_not]
   simp only at this
   omega
  have hst : (store ((⟨g, o, none⟩ : Addr).add i) v).run P w = .ok () (w.setRow g (cur.setIfInBounds (o + i) v)) := by
   rw [hadd, run_store P w _ v _ (h1 v (by simp)), hcell]
   simp [hfro, setCell_eq_setRow w g (o + i) cur t fz v hg]
  have ih := run_storeCells_fr P g o t fz rest (i + 1) (cur.setIfInBounds (o + i) v) (w.setRow g (cur.setIfInBounds (o + i) v)) (setRow_heap w g cur _ t _ hg) (by simpa using hfz) (by simp at hl ⊢; omega) (fun x hx => h1 x (by simp [hx]))
  simp only [storeCells, Sem.run_bind, hst, Result.andThen_ok, ih, setRow_setRow, spliced]
  congr 3
  have e := list_seg_step cur.toList (o + i) v rest (by simp at hl ⊢; omega)
  simpa [Array.toList_setIfInBounds, Nat.add_assoc] using e
theorem run_storeVar (P : Program) (w : World) (ty : TypeId) (g o : Nat) (t : TypeId) (fz : Nat × Nat) (cur : Array Value) (v : Value) (hg : w.heap[g]? = some (.cells cur t fz)) (hf : frOk fz cur.size) (hl : o + v.cells.size <= cur.size)
  (h1 : ∀ u ∈ v.cells.toList, u.oneCell' = true) (hz : ∃ i, P.info? ty = some i /\ v.cells.size = i.size) :
  (storeVar ty ⟨g, o, none⟩ v).run P w = .ok () (w.setRow g (spliced cur o v.cells.toList).toArray) := by
 obtain ⟨i, hi, hs⟩ := hz
 have := run_storeCells_fr P g o t fz v.cells.toList 0 cur w hg hf (by simpa using hl) h1
 rw [Nat.add_zero] at this
 simp [storeVar, sizeOf, typeInfo, hi, hs, this]
end Go.VS
/- VS, eighth part: operations on literals. -/
set_option linter.unusedVariables false
set_option linter.unusedSimpArgs false
namespace Go.VS
theorem wrap_range (k : IntKind) (n : Int) : k.min <= k.wrap n /\ k.wrap n <= k.max := by
 cases k <;> simp [IntKind.wrap, IntKind.min, IntKind.max, IntKind.bits, IntKind.signed] <;> (try split) <;> omega
theorem wrap_in {k : IntKind} {n : Int} (h : k.min <= n) (h' : n <= k.max) : k.wrap n = n := by
 cases k <;> simp [IntKind.wrap, IntKind.min, IntKind.max, IntKind.bits, IntKind.signed] at * <;> (try split) <;> omega
def binInt (op : BinOp) (k : IntKind) (a : Int) (k' : IntKind) (b : Int) : Option Value :=
 match op with
 | .shl => if b < 0 then none else some (.int k (k.wrap (a * 2 ^ (min b.toNat k.bits))))
 | .shr => if b < 0 then none else some (.int k (a.fdiv (2 ^ (min b.toNat k.bits))))
 | .add => if k = k' then some (.int k (k.wrap (a + b))) else none
 | .sub => if k = k' then some (.int k (k.wrap (a - b))) else none
 | .mul => if k = k' then some (.int k (k.wrap (a * b))) else none
 | .quo => if k = k' /\ b ≠ 0 then some (.int k (k.wrap (a.tdiv b))) else none
 | .rem => if k = k' /\ b ≠ 0 then some (.int k (a.tmod b)) else none
 | .and => if k = k' then some (.int k (k.wrap (BitVec.ofInt k.bits a &&& BitVec.ofInt k.bits b).toNat)) else none
 | .or => if k = k' then some (.int k (k.wrap (BitVec.ofInt k.bits a ||| BitVec.ofInt k.bits b).toNat)) else none
 | .xor => if k = k' then some (.int k (k.wrap (BitVec.ofInt k.bits a ^^^ BitVec.ofInt k.bits b).toNat)) else none
 | .eql => if k = k' then some (.bool (a == b)) else none
 | .neq => if k = k' then some (.bool (a != b)) else none
 | .lss => if k = k' then some (.bool (decide (a < b))) else none
 | .leq => if k = k' then some (.bool (decide (a <= b))) else none
 | .gtr => if k = k' then some (.bool (decide (a > b))) else none
 | .geq => if k = k' then some (.bool (decide (a ≥ b))) else none
 | _ => none
theorem tmod_nat (m : Nat) (b : Int) : ∃ r : Nat, r <= m /\ (m : Int).tmod b = r := by
 cases b
 ·exact ⟨_, Nat.mod_le _ _, rfl⟩
 ·exact ⟨_, Nat.mod_le _ _, rfl⟩
theorem tmod_range {k : IntKind} {a b : Int} (h : k.min <= a) (h' : a <= k.max) : k.min <= a.tmod b /\ a.tmod b <= k.max := by
 have h0 : k.min <= 0 := by cases k <;> simp [IntKind.min, IntKind.bits, IntKind.signed]
 have h1 : 0 <= k.max := by cases k <;> simp [IntKind.max, IntKind.bits, IntKind.signed]
 rcases Int.le_total 0 a with ha | ha
 ·obtain ⟨r, h2, h3⟩ := tmod_nat a.toNat b
  rw [Int.toNat_of_nonneg ha] at h3
  omega
 ·obtain ⟨r, h2, h3⟩ := tmod_nat (-a).toNat b
  rw [Int.toNat_of_nonneg (by omega), Int.neg_tmod] at h3
  omega
theorem fdiv_range {k : IntKind} {a : Int} {n : Nat} (h : k.min <= a) (h' : a <= k.max) : k.min <= a.fdiv (2 ^ n) /\ a.fdiv (2 ^ n) <= k.max := by
 have h0 : k.min <= 0 := by cases k <;> simp [IntKind.min, IntKind.bits, IntKind.signed]
 have h1 : 0 <= k.max := by cases k <;> simp [IntKind.max, IntKind.bits, IntKind.signed]
 have hp : (0 : Int) < 2 ^ n := Int.pow_pos (by decide)
 rw [Int.fdiv_eq_ediv_of_nonneg _ (Int.le_of_lt hp)]
 rcases Int.le_total 0 a with ha | ha
 ·have := Int.ediv_nonneg ha (Int.le_of_lt hp)
  have := Int.ediv_le_self (2 ^ n) ha
  omega
 ·have h2 : a / 2 ^ n <= 0 := by
   have := Int.ediv_le_ediv hp ha
   simpa using this
  have h3 : a <= a / 2 ^ n := by
   have e1 := Int.mul_ediv_add_emod a (2 ^ n)
   have e2 := Int.emod_nonneg a (Int.ne_of_gt hp)
   have e3 := Int.emod_lt_of_pos a hp
   by_cases hz : a / 2 ^ n = 0
   ·omega
   ·have : 2 ^ n * (a / 2 ^ n) <= a := by omega
    have h4 : 2 ^ n * (a / 2 ^ n) + 2 ^ n > a := by omega
    by_cases h5 : a / 2 ^ n < a
    ·exfalso
     have h6 : 2 ^ n * (a / 2 ^ n) <= 2 ^ n * (a - 1) := Int.mul_le_mul_of_nonneg_left (by omega) (Int.le_of_lt hp)
     have h7 : 2 ^ n * (a - 1) + 2 ^ n = 2 ^ n * a := by rw [Int.mul_sub, Int.mul_one]; omega
     have h8 : 2 ^ n * a <= 1 * a := by
      have : (1 : Int) <= 2 ^ n := by omega
      exact Int.mul_le_mul_of_nonpos_right this ha
     omega
    ·exact Int.not_lt.1 h5
  omega
theorem binInt_ok {op : BinOp} {k k' : IntKind} {a b : Int} {v : Value} (h : binInt op k a k' b = some v) (ha : litOk (.int k a)) (P : Program) (t : TypeId) (w : World) :
  (binOp op t (.int k a) (.int k' b)).run P w = .ok v w /\ litOk v := by
 unfold litOk at ha
 cases op <;> simp only [binInt] at h <;> (try (cases h; done)) <;> split at h <;> (try (cases h; done)) <;> rename_i hc <;> cases h
 all_goals first
  | (obtain rfl := hc; exact ⟨by simp [binOp, Op.intArith, Op.intBits, Op.intCmp], wrap_range _ _⟩)
  | (obtain rfl := hc; exact ⟨by simp [binOp, Op.intArith, Op.intBits, Op.intCmp], trivial⟩)
  | (obtain ⟨rfl, hc⟩ := hc; exact ⟨by simp [binOp, Op.intDiv, hc], wrap_range _ _⟩)
  | (obtain ⟨rfl, hc⟩ := hc; exact ⟨by simp [binOp, Op.intDiv, hc], tmod_range ha.1 ha.2⟩)
  | exact ⟨by simp [binOp, Op.shift, hc], wrap_range _ _⟩
  | exact ⟨by simp [binOp, Op.shift, hc], fdiv_range ha.1 ha.2⟩
def binStr (op : BinOp) (a b : ByteArray) : Option Value :=
 match op with
 | .add => if a.size + b.size <= maxLen then some (.string (a ++ b)) else none
 | .eql => some (.bool (a == b))
 | .neq => some (.bool (a != b))
 | .lss => some (.bool (Op.bytesLess a.toList b.toList))
 | .leq => some (.bool (Op.bytesLess a.toList b.toList || a == b))
 | .gtr => some (.bool (!(Op.bytesLess a.toList b.toList || a == b)))
 | .geq => some (.bool (!Op.bytesLess a.toList b.toList))
 | _ => none
theorem binStr_ok {op : BinOp} {a b : ByteArray} {v : Value} (h : binStr op a b = some v) (P : Program) (t : TypeId) (w : World) :
  (binOp op t (.string a) (.string b)).run P w = .ok v w /\ litOk v := by
 have e := beq_toListBytes a b
 cases op <;> simp only [binStr] at h <;> (try (cases h; done))
 case add =>
  split at h <;> cases h
  rename_i hc
  refine ⟨?_, ?_⟩
  ·have : ¬ (((a.size + b.size : Nat) : Int) > IntKind.i64.max) := by
    simp [IntKind.max, IntKind.bits, IntKind.signed]; simp only [maxLen] at hc; omega
   simp only [binOp, Op.stringOp, this, if_false, Sem.run_pure]
  ·show (a ++ b).size <= maxLen
   rw [ByteArray.size_append]; exact hc
 all_goals
  cases h
  exact ⟨by simp [binOp, Op.stringOp, e, bne], trivial⟩
def plainKind (P : Program) (f : Field) : Option Nat :=
 match P.underlying f.type with
 | some (.int _) => some 0
 | some .bool => some 1
 | some .string => some 2
 | _ => none
def eqLit : Nat -> Value -> Value -> Option Bool
 | 0, .int k a, .int k' b => if k = k' then some (a == b) else none
 | 1, .bool a, .bool b => some (a == b)
 | 2, .string a, .string b => some (a == b)
 | _, _, _ => none
def eqAgg : List Nat -> List AVal -> List AVal -> Option Bool
 | [], [], [] => some true
 | k :: ks, .lit a :: xs, .lit b :: ys => match eqLit k a b, eqAgg ks xs ys with
  | some p, some q => some (p && q)
  | _, _ => none
 | _, _, _ => none
def plainFields (P : Program) : Nat -> List Field -> Option (List Nat)
 | _, [] => some []
 | k, f :: fs => match plainKind P f, plainFields P (k + 1) fs with
  | some a, some as => if f.name ≠ "_" /\ f.offset = k then some (a :: as) else none
  | _, _ => none
def plainStruct (P : Program) (t : TypeId) : Option (List Nat) :=
 match P.underlying t with
 | some (.struct _) => if P.stoodInHeld t = false /\ P.eqGuardType P.depth t = false then plainFields P 0 (P.fieldsOf t).toList else none
 | _ => none
theorem run_eqFields (P : Program) (w : World) (d : Nat) : ∀ (fs : List Field) (k : Nat) (ks : List Nat) (xs ys : List AVal) (cx cy : Array Value), plainFields P k fs = some ks →
  (∀ (i : Nat) (v : Value), xs[i]? = some (.lit v) -> cx[k + i]? = some v) -> (∀ (i : Nat) (v : Value), ys[i]? = some (.lit v) -> cy[k + i]? = some v) →
  ∀ {r : Bool}, eqAgg ks xs ys = some r -> (Op.eqFields (d + 1) cx cy fs).run P w = .ok r w
 | [], k, ks, xs, ys, cx, cy, hp, _, _, r, h => by
  simp only [plainFields, Option.some.injEq] at hp
  subst hp
  cases xs with
  | nil =>
   cases ys with
   | nil => simp [eqAgg] at h; subst h; simp [Op.eqFields]
   | cons y ys => simp [eqAgg] at h
  | cons x xs => simp [eqAgg] at h
 | f :: fs, k, ks, xs, ys, cx, cy, hp, hx, hy, r, h => by
  simp only [plainFields] at hp
  split at hp
  ·rename_i kf kfs h1 h4
   split at hp
   ·rename_i h23
    obtain ⟨h2, h3⟩ := h23
    cases hp
    unfold eqAgg at h
    split at h
    ·rename_i he; cases he
    ·rename_i k1 ks1 a xs1 b ys1 he
     cases he
     split at h
     ·rename_i p q hpq hq
      cases h
      have hca := hx 0 a rfl
      have hcb := hy 0 b rfl
      have ih := run_eqFields P w d fs (k + 1) _ xs1 ys1 cx cy h4 (fun i v hv => by rw [Nat.add_assoc, Nat.add_comm 1]; exact hx (i + 1) v (by simpa using hv))
       (fun i v hv => by rw [Nat.add_assoc, Nat.add_comm 1]; exact hy (i + 1) v (by simpa using hv)) hq
      rw [Nat.add_zero] at hca hcb
      have part_at : ∀ (c : Array Value) (v : Value), c[k]? = some v -> (part f.type c f.offset).run P w = .ok v w := by
       intro c v hv
       unfold plainKind at h1
       have hia : (isAgg f.type).run P w = .ok false w := by
        split at h1 <;> first | (rename_i hu; simp [isAgg, run_underlying hu]; done) | cases h1
       simp [part, hia, h3, hv]
      have heq : (Op.equalIn (d + 1) f.type a b).run P w = .ok p w := by
       unfold plainKind at h1
       unfold eqLit at hpq
       split at hpq
       ·split at hpq
        ·rename_i hk
         subst hk
         cases hpq
         split at h1 <;> rename_i hu <;> cases h1
         exact run_equalIn_int w d _ _ _ _ _ hu
        ·cases hpq
       ·cases hpq
        split at h1 <;> rename_i hu <;> cases h1
        exact run_equalIn_bool' w d _ _ _ hu
       ·cases hpq
        split at h1 <;> rename_i hu <;> cases h1
        rw [run_equalIn_string w d _ _ _ hu, beq_toListBytes]
       ·cases hpq
      have h2' : (f.name = "_") = False := eq_false h2
      simp only [Op.eqFields, ne_eq, h2', not_false_eq_true, if_true, Sem.run_ite, Sem.run_bind, part_at cx a hca, part_at cy b hcb, Result.andThen_ok, heq]
      cases p <;> simp [ih]
     ·cases h
    ·cases h
   ·cases hp
  ·cases hp
end Go.VS
/- VS, ninth part: what an operation asks and does, in the abstract state. -/
set_option linter.unusedVariables false
set_option linter.unusedSimpArgs false
namespace Go.VS
def elemT (P : Program) (t : TypeId) : Option TypeId := match P.underlying t with | some (.slice e) => some e | _ => none
def aggT (P : Program) (t : TypeId) : Option Bool := match P.underlying t with | some (.struct _) => some true | some (.array _ _) => some true | some _ => some false | none => none
def fieldT (P : Program) (t : TypeId) (k : Nat) : Option (Nat × TypeId) := match P.underlying t with
 | some (.struct fs) => match fs[k]? with
  | some f => if 0 < P.cellsOf f.type then some (f.offset, f.type) else none
  | none => none
 | _ => none
def litOkB : Value -> Bool
 | .int k n => decide (k.min <= n) && decide (n <= k.max)
 | .string s => decide (s.size <= maxLen)
 | .agg _ => false
 | .tuple _ => false
 | _ => true
theorem litOkB_ok {v : Value} (h : litOkB v = true) : litOk v := by
 cases v <;> simp_all [litOkB, litOk]
mutual
def zeroGo (P : Program) : Nat -> TypeId -> Option AVal
 | 0, _ => none
 | d + 1, t => match P.underlying t with
  | some (.struct fs) => match zeroGos P d (fs.toList.map (·.type)) with | some xs => some (.agg xs) | none => none
  | some (.slice e) => some (.lst true (P.cellsOf e) [])
  | some (.array _ _) => none
  | _ => match P.info? t with
   | some i => match i.zero with
    | some v => if litOkB v then some (.lit v) else none
    | none => none
   | none => none
def zeroGos (P : Program) : Nat -> List TypeId -> Option (List AVal)
 | 0, _ => none
 | _ + 1, [] => some []
 | d + 1, t :: ts => match zeroGo P d t, zeroGos P d ts with
  | some x, some xs => some (x :: xs)
  | _, _ => none
end
mutual
def flatZ : AVal -> Option (List Value)
 | .lit v => if litOkB v then some [v] else none
 | .lst true _ [] => some [.slice none 0 0]
 | .agg xs => flatZs xs
 | _ => none
def flatZs : List AVal -> Option (List Value)
 | [] => some []
 | x :: xs => match flatZ x, flatZs xs with
  | some a, some b => some (a ++ b)
  | _, _ => none
end
def beqZ : Value -> Value -> Bool
 | .int k a, .int k' b => decide (k = k') && decide (a = b)
 | .bool a, .bool b => a == b
 | .string a, .string b => decide (a = b)
 | .slice none 0 0, .slice none 0 0 => true
 | .pointer none, .pointer none => true
 | .map none, .map none => true
 | .nilFunc, .nilFunc => true
 | .nilIface, .nilIface => true
 | _, _ => false
theorem beqZ_eq {a b : Value} (h : beqZ a b = true) : a = b := by
 unfold beqZ at h
 split at h <;> simp_all
def beqZs : List Value -> List Value -> Bool
 | [], [] => true
 | a :: as, b :: bs => beqZ a b && beqZs as bs
 | _, _ => false
theorem beqZs_eq : ∀ {a b : List Value}, beqZs a b = true -> a = b
 | [], [], _ => rfl
 | [], _ :: _, h => by simp [beqZs] at h
 | _ :: _, [], h => by simp [beqZs] at h
 | a :: as, b :: bs, h => by
  simp only [beqZs, Bool.and_eq_true] at h
  rw [beqZ_eq h.1, beqZs_eq h.2]
def zeroOf (P : Program) (t : TypeId) : Option AVal := match zeroGo P 60 t, P.info? t with
 | some x, some i => match flatZ x, i.zero with
  | some cs, some z => if beqZs cs z.cells.toList && isAggA x == isAggV z && i.size == x.w then some x else none
  | _, _ => none
 | _, _ => none
def placesOk (P : Program) : Nat -> List Field -> List AVal -> Bool
 | _, [], [] => true
 | o, f :: fs, x :: xs => f.offset == o && P.cellsOf f.type == x.w && decide (0 < x.w) && (P.info? f.type).isSome && placesOk P (o + x.w) fs xs
 | _, _, _ => false
def structOf (P : Program) (t : TypeId) : Option (List AVal) := match zeroOf P t, P.underlying t with
 | some (.agg xs), some (.struct fs) => if placesOk P 0 fs.toList xs then some xs else none
 | _, _ => none
def fixNil (P : Program) (t : TypeId) (x : AVal) : AVal := match x with
 | .lit (.slice none 0 0) => match elemT P t with
  | some e => .lst true (P.cellsOf e) []
  | none => x
 | _ => x
def opV (e : Env) : Operand -> AVal
 | .tmp t => copyOut ⟨t, []⟩ (e t)
 | .const v => .lit v
 | .func f => .fn f []
 | .global _ => .undef
def Ctx.mvr (c : Ctx) (rid t r : Nat) : Bool := r != t && (!c.keep.contains r || c.mvs.contains rid)
def moveK (mvr : Nat -> Bool) (x : AVal) (e : Env) (K : AVal -> Env -> Prop) : Prop := match moveV mvr x e with
 | some (y, e1) => K y e1
 | none => False
def movesK (mvr : Nat -> Bool) (xs : List AVal) (e : Env) (K : List AVal -> Env -> Prop) : Prop := match moveVs mvr xs e with
 | some (ys, e1) => K ys e1
 | none => False
def elems (e : Env) : AVal -> Option (Nat × List AVal)
 | .lst _ sz xs => some (sz, xs)
 | .href l sz lo n => match getE e l with
  | some (.lst true sz' xs) => if sz' = sz /\ lo + n <= xs.length then some (sz, (xs.drop lo).take n) else none
  | _ => none
 | _ => none
def isUndef : AVal -> Bool
 | .undef => true
 | _ => false
def capOk : AVal -> Bool
 | .undef => false
 | .agg _ => false
 | .tup _ => false
 | _ => true
mutual
def flatA : AVal -> Bool
 | .undef => true
 | .lit _ => true
 | .ifc => true
 | .agg xs => flatAs xs
 | .lst false _ _ => true
 | .ptr false _ => true
 | .mp false _ => true
 | .fn _ caps => flatAs caps
 | _ => false
def flatAs : List AVal -> Bool
 | [] => true
 | x :: xs => flatA x && flatAs xs
end
def byteA (b : UInt8) : AVal := .lit (.int .u8 b.toNat)
def bytesA (s : ByteArray) : List AVal := s.data.toList.map byteA
def byteOfA : AVal -> Option UInt8
 | .lit (.int .u8 n) => some (UInt8.ofNat n.toNat)
 | _ => none
def strOfA : List AVal -> Option (List UInt8)
 | [] => some []
 | x :: xs => match byteOfA x, strOfA xs with
  | some b, some bs => some (b :: bs)
  | _, _ => none
def stOk : AVal -> Bool
 | .undef => false
 | .tup _ => false
 | _ => true
def setParts : List AVal -> List (Nat × AVal) -> Option (List AVal)
 | zs, [] => some zs
 | zs, (k, x) :: ps => match zs[k]? with
  | some z => match x with
   | .lit (.slice none 0 0) => if isNilList z then setParts zs ps else none
   | x => if x.w = z.w /\ stOk x = true then setParts (zs.set k x) ps else none
  | none => none
where isNilList : AVal -> Bool
 | .lst true _ [] => true
 | _ => false
def unA (op : UnOp) : AVal -> Option Value
 | .lit (.bool b) => match op with | .not => some (.bool !b) | _ => none
 | .lit (.int k n) => match op with
  | .neg => some (.int k (k.wrap (0 - n)))
  | .xor => some (.int k (k.wrap (BitVec.ofInt k.bits (if k.signed then -1 else k.max) ^^^ BitVec.ofInt k.bits n).toNat))
  | _ => none
 | _ => none
def fits (P : Program) (e : TypeId) (n : Nat) : Prop := n * P.bytesOf e <= 140737488355328 /\ n <= maxLen
def binK (P : Program) (op : BinOp) (t : TypeId) (xo yo : Operand) (x y : AVal) (K : AVal -> Prop) : Prop :=
 match x, y with
 | .lit (.int k a), .lit (.int k' b) => match binInt op k a k' b with | some v => K (.lit v) | none => False
 | .lit (.string a), .lit (.string b) => match binStr op a b with | some v => K (.lit v) | none => False
 | .lit (.bool a), .lit (.bool b) => match op, P.underlying t with
  | .eql, some .bool => K (.lit (.bool (a == b)))
  | .neq, some .bool => K (.lit (.bool (a != b)))
  | _, _ => False
 | .agg xs, .agg ys => match plainStruct P t with
  | some ks => match op, eqAgg ks xs ys with
   | .eql, some r => K (.lit (.bool r))
   | .neq, some r => K (.lit (.bool !r))
   | _, _ => False
  | none => False
 | .ifc, .lit .nilIface => match op, P.underlying t with
  | .eql, some (.interface _) => K (.lit (.bool false))
  | .neq, some (.interface _) => K (.lit (.bool true))
  | _, _ => False
 | .lit .nilIface, .lit .nilIface => match op, P.underlying t, yo with
  | .eql, some (.interface _), .const _ => K (.lit (.bool true))
  | .neq, some (.interface _), .const _ => K (.lit (.bool false))
  | _, _, _ => False
 | x, .lit (.slice none 0 0) => match x, op, P.underlying t with
  | .lst _ _ xs, .eql, some (.slice _) => ∀ b : Bool, (0 < xs.length -> b = false) -> K (.lit (.bool b))
  | .href _ _ _ n, .eql, some (.slice _) => ∀ b : Bool, (0 < n -> b = false) -> K (.lit (.bool b))
  | _, _, _ => False
 | _, _ => False
def keyB : TypeDesc -> Value -> Bool
 | .bool, .bool _ => true
 | .int k, .int k' _ => k' == k
 | .string, .string _ => true
 | _, _ => false
def keyEq : Value -> Value -> Bool
 | .int _ a, .int _ b => a == b
 | .string a, .string b => decide (a = b)
 | .bool a, .bool b => a == b
 | _, _ => false
def mFind (k : Value) : List (Value × Value) -> Option Value
 | [] => none
 | p :: es => if keyEq k p.1 = true then some p.2 else mFind k es
def mPut (k v : Value) : List (Value × Value) -> List (Value × Value)
 | [] => [(k, v)]
 | p :: es => if keyEq k p.1 = true then (k, v) :: es else p :: mPut k v es
def mapK (el : TypeId) : Option TypeDesc -> Option (TypeDesc × TypeId)
 | some (.int k) => some (.int k, el)
 | some .string => some (.string, el)
 | some .bool => some (.bool, el)
 | _ => none
def mapT (P : Program) (ty : TypeId) : Option (TypeDesc × TypeId) := match P.underlying ty with
 | some (.map k el) => mapK el (P.underlying k)
 | _ => none
def esQ : Option AVal -> Option (List (Value × Value))
 | some (.mp true es) => some es
 | _ => none
def esOf (e : Env) : AVal -> Option (List (Value × Value))
 | .mref l => esQ (getE e l)
 | .mp false es => some es
 | _ => none
def lenMp (K : AVal -> Prop) (es : Option (List (Value × Value))) : Option TypeDesc -> Prop
 | some (.map _ _) => match es with
  | some es => es.length <= maxLen /\ K (.lit (.int .i64 es.length))
  | none => False
 | _ => False
def lookV : Bool -> Value -> Bool -> AVal
 | true, v, b => .tup [.lit v, .lit (.bool b)]
 | false, v, _ => .lit v
def lookZ (ok : Bool) (K : AVal -> Prop) : Option Value -> Option AVal -> Prop
 | some v, _ => K (lookV ok v true)
 | none, some (.lit z) => K (lookV ok z false)
 | none, _ => False
def lookK (P : Program) (ok : Bool) (K : AVal -> Prop) : Option (TypeDesc × TypeId) -> Option (List (Value × Value)) -> AVal -> Prop
 | some (d, el), some es, .lit k => keyB d k = true /\ (∀ p ∈ es, keyB d p.1 = true /\ litOk p.2) /\ lookZ ok K (mFind k es) (zeroOf P el)
 | _, _, _ => False
def setS (r : Nat) (x : AVal) (e : Env) : Env := fun q => if q = r then x else e q
def mapUp (d : TypeDesc) (k v : Value) (r : Nat) (e : Env) (K : Env -> Prop) : AVal -> Prop
 | .mp true es => keyB d k = true /\ (∀ p ∈ es, keyB d p.1 = true) /\ K (setS r (.mp true (mPut k v es)) e)
 | _ => False
def mapUpK (e : Env) (K : Env -> Prop) : Option (TypeDesc × TypeId) -> AVal -> AVal -> AVal -> Prop
 | some (d, _), .mref ⟨r, []⟩, .lit k, .lit v => mapUp d k v r e K (e r)
 | _, _, _, _ => False
def mmV (mx : Bool) (x y : Int) : Int := match mx with
 | true => if x < y then y else x
 | false => if y < x then y else x
def mmK (mx : Bool) (K : AVal -> Prop) : AVal -> AVal -> Prop
 | .lit (.int k x), .lit (.int k' y) => k' = k /\ K (.lit (.int k (mmV mx x y)))
 | _, _ => False
def mmL (mx : Bool) (vs : List AVal) (K : AVal -> Prop) : Prop := match vs with
 | [x, y] => mmK mx K x y
 | _ => False
def opK (c : Ctx) (rid t : Nat) (o : Oper) (e : Env) (K : AVal -> Env -> Prop) : Prop :=
 match o.op with
 | .move x => K (opV e x) e
 | .assign x => moveK (c.mvr rid t) (fixNil c.g.P o.type (opV e x)) e K
 | .pick x a b => match opV e x with
  | .lit (.bool q) => (q = true -> K (opV e a) e) /\ (q = false -> K (opV e b) e)
  | _ => False
 | .nilCheck x => match opV e x with
  | .adr l i fs off => K (.adr l i fs off) e
  | .ptr false y => K (.ptr false y) e
  | _ => False
 | .alloc ty => match zeroOf c.g.P ty with
  | some z => K (.ptr true z) e
  | none => False
 | .box ty x => moveK (c.mvr rid t) (fixNil c.g.P ty (opV e x)) e fun y e1 => isUndef y = false /\ K (.ptr true y) e1
 | .build ty parts => match structOf c.g.P ty with
  | some zs => match setParts zs (parts.toList.map fun p => (p.1, opV e p.2)) with
   | some xs => K (.agg xs) e
   | none => False
  | none => False
 | .buildSlice ty len parts => match elemT c.g.P ty with
  | some el => (parts.toList.map (·.1) = List.range len) /\ 0 < c.g.P.cellsOf el /\ len * c.g.P.cellsOf el <= 2 ^ 24 /\ (zeroOf c.g.P el).isSome ∧
    movesK (c.mvr rid t) (parts.toList.map fun p => fixNil c.g.P el (opV e p.2)) e fun ys e1 => (∀ y ∈ ys, y.w = c.g.P.cellsOf el /\ noRef y = true /\ stOk y = true) /\ K (.lst true (c.g.P.cellsOf el) ys) e1
  | none => False
 | .load ty x => match opV e x with
  | .ptr false y => y.w = c.g.P.cellsOf ty /\ 0 < y.w /\ aggT c.g.P ty = some (isAggA y) /\ K y e
  | .adr l i fs off => match getE e l with
   | some node => match nodeAt i fs node with
    | some (off', y) => off' = off /\ y.w = c.g.P.cellsOf ty /\ 0 < y.w /\ aggT c.g.P ty = some (isAggA y) /\ K (copyOut ((l.idx i).flds fs) y) e
    | none => False
   | none => False
  | _ => False
 | .binOp op ty x y _ => binK c.g.P op ty x y (opV e x) (opV e y) fun v => K v e
 | .unOp op _ x => match unA op (opV e x) with
  | some v => K (.lit v) e
  | none => False
 | .convert src dst x => match opV e x with
  | .lit (.int _ n) => match c.g.P.underlying src, c.g.P.underlying dst with
   | some _, some (.int k) => K (.lit (.int k (k.wrap n))) e
   | _, _ => False
  | .lit (.string s) => match c.g.P.underlying src, c.g.P.underlying dst with
   | some .string, some .string => K (.lit (.string s)) e
   | some .string, some (.slice el) => match c.g.P.underlying el with
    | some (.int .u8) => c.g.P.cellsOf el = 1 /\ K (.lst true 1 (bytesA s)) e
    | _ => False
   | _, _ => False
  | x => match elems e x, c.g.P.underlying src, c.g.P.underlying dst with
   | some (1, xs), some (.slice el), some .string => match c.g.P.underlying el, strOfA xs with
    | some (.int .u8), some bs => K (.lit (.string ⟨bs.toArray⟩)) e
    | _, _ => False
   | _, _, _ => False
 | .makeFunc fn first captured => match fn, first.size with
  | .func f, 0 => (captured.toList.map (opV e)).all capOk = true /\ K (.fn f (captured.toList.map (opV e))) e
  | _, _ => False
 | .makeSlice ty len cap => match elemT c.g.P ty with
  | some el => match zeroOf c.g.P el, opV e len, opV e cap with
   | some z, .lit (.int .i64 n), .lit (.int .i64 m) => 0 <= n /\ n <= m /\ fits c.g.P el m.toNat /\ 0 < z.w /\ K (.lst true (c.g.P.cellsOf el) (List.replicate n.toNat z)) e
   | _, _, _ => False
  | none => False
 | .slice ty x lo hi mx => match mx with
  | some _ => False
  | none => match opV e x with
   | .lit (.string s) => match c.g.P.underlying ty with
    | some .string => match loOf e lo, hiOf e hi s.size with
     | some l, some h => 0 <= l /\ l <= h /\ h <= s.size /\ K (.lit (.string (s.extract l.toNat h.toNat))) e
     | _, _ => False
    | _ => False
   | .lst false sz xs => match elemT c.g.P ty, loOf e lo, hiOf e hi xs.length with
    | some el, some l, some h => c.g.P.cellsOf el = sz /\ 0 < sz /\ 0 <= l /\ l <= h /\ h <= xs.length /\ K (.lst false sz ((xs.drop l.toNat).take (h.toNat - l.toNat))) e
    | _, _, _ => False
   | .href loc sz lo0 n => match elemT c.g.P ty, loOf e lo, hiOf e hi n with
    | some el, some l, some h => c.g.P.cellsOf el = sz /\ 0 < sz /\ 0 <= l /\ l <= h /\ h <= n /\ (l < h -> K (.href loc sz (lo0 + l.toNat) (h.toNat - l.toNat)) e) /\ (l = h -> K (.lst false sz []) e)
    | _, _, _ => False
   | _ => False
 | .fieldAddr ty x k => match fieldT c.g.P ty k, opV e x with
  | some (fo, _), .adr l i fs off => K (.adr l i (fs ++ [k]) (off + fo)) e
  | some (fo, _), .ptr false y => match getF [k] y with
   | some (fo', z) => fo' = fo /\ 0 < z.w /\ K (.ptr false z) e
   | none => False
  | _, _ => False
 | .field ty x k => match fieldT c.g.P ty k with
  | some (fo, ft) => match getF [k] (opV e x) with
   | some (fo', z) => fo' = fo /\ 0 < z.w /\ z.w = c.g.P.cellsOf ft /\ aggT c.g.P ft = some (isAggA z) /\ K z e
   | none => False
  | none => False
 | .indexAddr ty x i => match elemT c.g.P ty, opV e i with
  | some el, .lit (.int _ n) => match opV e x with
   | .lst false sz xs => c.g.P.cellsOf el = sz /\ 0 < sz /\ 0 <= n /\ n < xs.length /\ ∃ y, xs[n.toNat]? = some y /\ K (.ptr false y) e
   | .href l sz lo m => c.g.P.cellsOf el = sz /\ 0 < sz /\ 0 <= n /\ n < m /\ K (.adr l (lo + n.toNat) [] ((lo + n.toNat) * sz)) e
   | _ => False
  | _, _ => False
 | .index ty x i => match opV e x, opV e i, c.g.P.underlying ty with
  | .lit (.string s), .lit (.int _ n), some .string => 0 <= n /\ n < s.size /\ K (.lit (.int .u8 (s.data.toList.getD n.toNat 0).toNat)) e
  | _, _, _ => False
 | .extract x i => match x with
  | .tmp s => match e s with
   | .tup xs => match xs[i]? with
    | some y => K (copyOut ⟨s, [.fld i]⟩ y) e
    | none => False
   | _ => False
  | _ => False
 | .call { callee := .builtin .len, args, argTypes } => match args[0]?, argTypes[0]? with
  | some x, some ty => match opV e x with
   | .lit (.string s) => match c.g.P.underlying ty with
    | some .string => s.size <= maxLen -> K (.lit (.int .i64 s.size)) e
    | _ => False
   | .lst false _ xs => match c.g.P.underlying ty with
    | some (.slice _) => xs.length <= maxLen -> K (.lit (.int .i64 xs.length)) e
    | _ => False
   | .href _ _ _ n => match c.g.P.underlying ty with
    | some (.slice _) => n <= maxLen -> K (.lit (.int .i64 n)) e
    | _ => False
   | v => lenMp (fun y => K y e) (esOf e v) (c.g.P.underlying ty)
  | _, _ => False
 | .makeMap _ none => K (.mp true []) e
 | .lookup ty x i ok => lookK c.g.P ok (fun v => K v e) (mapT c.g.P ty) (esOf e (opV e x)) (opV e i)
 | .call { callee := .builtin .max, args, argTypes } => mmL true (args.toList.map (opV e)) fun v => K v e
 | .call { callee := .builtin .min, args, argTypes } => mmL false (args.toList.map (opV e)) fun v => K v e
 | _ => False
where
 loOf (e : Env) : Option Operand -> Option Int
  | none => some 0
  | some x => match opV e x with | .lit (.int _ n) => some n | _ => none
 hiOf (e : Env) : Option Operand -> Nat -> Option Int
  | none, n => some n
  | some x, _ => match opV e x with | .lit (.int _ n) => some n | _ => none
end Go.VS
/- VS, tenth part: the operations are sound (1). -/
set_option linter.unusedVariables false
set_option linter.unusedSimpArgs false
namespace Go.VS
variable {c : Ctx} {w0 : World} {S0 : Nat -> Prop} {o0 : Own} {cargs : Array Value} {e : Env} {a : Act} {w : World} {S : Nat -> Prop} {ow : Own}
def constOk (c : Ctx) : Operand -> Bool
 | .const v => litOkB v
 | .tmp t => !(t + 1 == c.nt && c.muts.contains t)
 | _ => true
theorem isAggV_cells {v : Value} (h : isAggV v = false) : v.cells = #[v] := by
 cases v <;> simp_all [isAggV, Value.cells]
theorem RepV.one {h : Array Obj} {l : Loc} {v : Value} {x : AVal} (r : RepV h S ow l v x) (hu : x ≠ .undef) (ha : isAggA x = false) (ht : ∀ xs, x ≠ .tup xs) : Rep h S ow l [v] x := by
 rcases r with (h1 | ⟨h1, h2⟩) | ⟨_, xs, h1, _⟩
 ·exact absurd h1 hu
 ·rw [ha] at h2
  rw [isAggV_cells h2.symm] at h1
  exact h1
 ·exact absurd h1 (ht xs)
theorem RepV.agg {h : Array Obj} {l : Loc} {v : Value} {xs : List AVal} (r : RepV h S ow l v (.agg xs)) : ∃ cs, v = .agg cs /\ Rep h S ow l cs.toList (.agg xs) := by
 rcases r with (h1 | ⟨h1, h2⟩) | ⟨_, xs, h1, _⟩
 ·cases h1
 ·cases v <;> simp [isAggA, isAggV] at h2
  exact ⟨_, rfl, h1⟩
 ·cases h1
theorem RepV.lit {h : Array Obj} {l : Loc} {v u : Value} (r : RepV h S ow l v (.lit u)) : v = u /\ litOk u := by
 have := (r.one (by simp) rfl (by simp)).lit_inv
 exact ⟨by simpa using this.1, this.2⟩
theorem RepV.mk {h : Array Obj} {l : Loc} {v : Value} {x : AVal} (hv : isAggV v = false) (ha : isAggA x = false) (r : Rep h S ow l [v] x) : RepV h S ow l v x :=
 .inl (.inr ⟨by rw [isAggV_cells hv]; exact r, by rw [ha, hv]⟩)
theorem RepV.mkAgg {h : Array Obj} {l : Loc} {cs : Array Value} {xs : List AVal} (r : Rep h S ow l cs.toList (.agg xs)) : RepV h S ow l (.agg cs) (.agg xs) :=
 .inl (.inr ⟨r, rfl⟩)
theorem RepV.mkLit {h : Array Obj} {l : Loc} {v : Value} (hv : litOk v) : RepV h S ow l v (.lit v) :=
 .mk (by cases v <;> simp_all [litOk, isAggV]) rfl (.shd (.lit hv))
theorem RepV.ones {h : Array Obj} {l : Loc} {v : Value} {x : AVal} (r : RepV h S ow l v x) (hu : x ≠ .undef) (ht : ∀ xs, x ≠ .tup xs) : Rep h S ow l v.cells.toList x := by
 rcases r with (h1 | ⟨h1, h2⟩) | ⟨_, xs, h1, _⟩
 ·exact absurd h1 hu
 ·exact h1
 ·exact absurd h1 (ht xs)
theorem St.tvEval (s : St c w0 S0 o0 cargs e a w S ow) {t : Nat} (hx : constOk c (.tmp t) = true) : tv cargs a t = a.eval (.tmp t) := by
 show tv cargs a t = a.tmps.getD t Go.undef
 rcases s.sz with h | ⟨h1, h0, h, k, _⟩
 ·exact s.sz.plain h.1 t
 ·unfold tv
  split
  ·rfl
  ·rename_i ht
   have e2 : a.tmps.getD t Go.undef = Go.undef := by simp [Array.getD_eq_getD_getElem?, Nat.le_of_not_lt ht]
   first | rw [e2] | skip
   by_cases hlt : t < c.nt
   ·have he : t = a.tmps.size := Nat.le_antisymm (Nat.le_of_lt_succ (by rw [Nat.succ_eq_add_one, h]; exact hlt)) (Nat.le_of_not_lt ht)
    subst he
    simp [constOk, h, k] at hx
   ·by_cases hn : t = c.nt
    ·subst hn
     exact h0
    ·have : cargs.size <= t := by rw [h1]; exact Nat.lt_of_le_of_ne (Nat.le_of_not_lt hlt) (Ne.symm hn)
     simp [Array.getD_eq_getD_getElem?, this]
theorem opV_tmpS (s : St c w0 S0 o0 cargs e a w S ow) {t : Nat} (h : tv cargs a t = a.tmps.getD t Go.undef) (l : Loc) : RepV w.heap S ow l (a.tmps.getD t Go.undef) (opV e (.tmp t)) := by
 rw [<- h]
 exact (s.env t).copy l
theorem opV_sound (s : St c w0 S0 o0 cargs e a w S ow) (x : Operand) (hx : constOk c x = true) (l : Loc) : RepV w.heap S ow l (a.eval x) (opV e x) := by
 cases x with
 | tmp t =>
  rw [<- s.tvEval hx]
  exact (s.env t).copy l
 | const v => exact .mkLit (litOkB_ok hx)
 | func f => exact .mk rfl rfl (.shd (.fn rfl (by simp)))
 | global g => exact .inl (.inl rfl)
def Quiet (w w1 : World) : Prop := ∀ b, b < w.heap.size -> w1.heap[b]? = w.heap[b]?
theorem Quiet.refl (w : World) : Quiet w w := fun _ _ => rfl
def Out (c : Ctx) (w0 : World) (S0 : Nat -> Prop) (o0 : Own) (cargs : Array Value) (a : Act) (w : World) (t : Nat) (ow : Own) (K : AVal -> Env -> Prop) (v : Value) (w1 : World) : Prop :=
 ∃ x e1 S1 o1, K x e1 /\ St c w0 S0 o0 cargs e1 a w1 S1 o1 /\ RepV w1.heap S1 o1 ⟨t, []⟩ v x /\ newAt ow o1 ⟨t, []⟩ /\ Quiet w w1
theorem Out.same (s : St c w0 S0 o0 cargs e a w S ow) {t : Nat} {K : AVal -> Env -> Prop} {x : AVal} {v : Value} (h : K x e) (r : RepV w.heap S ow ⟨t, []⟩ v x) : Out c w0 S0 o0 cargs a w t ow K v w :=
 ⟨x, e, S, ow, h, s, r, newAt.refl _ _, Quiet.refl _⟩
def isMapD : Option TypeDesc -> Bool
 | some (.map _ _) => true
 | _ => false
def readsHeap (P : Program) : Op -> Bool
 | .load .. => true
 | .call { callee := .builtin .len, argTypes, .. } => match argTypes[0]? with
  | some t => isMapD (P.underlying t)
  | none => false
 | _ => false
def POut (c : Ctx) (a : Act) (w : World) (S : Nat -> Prop) (ow : Own) (o : Oper) (t : Nat) (e : Env) (K : AVal -> Env -> Prop) : Prop :=
 ∃ v, (∀ w', (readsHeap c.g.P o.op = true -> Quiet w w') -> (execOp a.eval o).run c.g.P w' = .ok (.value v) w') /\ ∃ x, K x e /\ RepV w.heap S ow ⟨t, []⟩ v x
theorem POut.out (s : St c w0 S0 o0 cargs e a w S ow) {t : Nat} {o : Oper} {K : AVal -> Env -> Prop} (h : POut c a w S ow o t e K) :
  ∃ v w1, (execOp a.eval o).run c.g.P w = .ok (.value v) w1 /\ Out c w0 S0 o0 cargs a w t ow K v w1 := by
 obtain ⟨v, h1, x, h2, h3⟩ := h
 exact ⟨v, w, h1 w (fun _ => Quiet.refl w), .same s h2 h3⟩
mutual
theorem moveV_agg {mvr : Nat -> Bool} : ∀ {x y : AVal} {e e1 : Env}, moveV mvr x e = some (y, e1) -> isAggA y = isAggA x /\ y.w = x.w /\ (x = .undef ↔ y = .undef) /\ ∀ xs, y ≠ .tup xs := by
 intro x y e e1 h
 cases x with
 | agg xs =>
  simp only [moveV] at h
  split at h
  ·rename_i ys e' hm
   cases h
   exact ⟨rfl, by simpa [AVal.w] using (moveVs_w hm).1, by simp, by simp⟩
  ·cases h
 | href l sz lo n =>
  simp only [moveV] at h
  split at h
  ·split at h
   ·split at h
    ·cases h; exact ⟨rfl, rfl, by simp, by simp⟩
    ·cases h
   ·cases h
  ·cases h; exact ⟨rfl, rfl, by simp, by simp⟩
 | adr l i fs off =>
  simp only [moveV] at h
  split at h
  ·split at h
   ·split at h
    ·cases h; exact ⟨rfl, rfl, by simp, by simp⟩
    ·cases h
   ·cases h
  ·cases h; exact ⟨rfl, rfl, by simp, by simp⟩
 | mref l =>
  simp only [moveV] at h
  split at h
  ·split at h
   ·cases h; exact ⟨rfl, rfl, by simp, by simp⟩
   ·cases h
  ·cases h; exact ⟨rfl, rfl, by simp, by simp⟩
 | fn f caps =>
  simp only [moveV] at h
  split at h
  ·cases h; exact ⟨rfl, rfl, by simp, by simp⟩
  ·cases h
 | tup xs => simp [moveV] at h
 | ptr own x => cases own <;> simp [moveV] at h; obtain ⟨rfl, rfl⟩ := h; exact ⟨rfl, rfl, by simp, by simp⟩
 | mp own es => cases own <;> simp [moveV] at h; obtain ⟨rfl, rfl⟩ := h; exact ⟨rfl, rfl, by simp, by simp⟩
 | lst own sz xs => simp [moveV] at h; obtain ⟨rfl, rfl⟩ := h; exact ⟨rfl, rfl, by simp, by simp⟩
 | undef => simp [moveV] at h; obtain ⟨rfl, rfl⟩ := h; exact ⟨rfl, rfl, by simp, by simp⟩
 | lit v => simp [moveV] at h; obtain ⟨rfl, rfl⟩ := h; exact ⟨rfl, rfl, by simp, by simp⟩
 | ifc => simp [moveV] at h; obtain ⟨rfl, rfl⟩ := h; exact ⟨rfl, rfl, by simp, by simp⟩
theorem moveVs_w {mvr : Nat -> Bool} : ∀ {xs ys : List AVal} {e e1 : Env}, moveVs mvr xs e = some (ys, e1) -> AVal.ws ys = AVal.ws xs /\ ys.length = xs.length := by
 intro xs ys e e1 h
 cases xs with
 | nil => simp [moveVs] at h; obtain ⟨rfl, rfl⟩ := h; exact ⟨rfl, rfl⟩
 | cons x xs =>
  simp only [moveVs] at h
  split at h
  ·rename_i y e' h1
   split at h
   ·rename_i ys' e2 h2
    cases h
    obtain ⟨_, h3, _⟩ := moveV_agg h1
    obtain ⟨h4, h5⟩ := moveVs_w h2
    exact ⟨by simp [AVal.ws, h3, h4], by simp [h5]⟩
   ·cases h
  ·cases h
end
theorem St.clear_far (s : St c w0 S0 o0 cargs e a w S ow) : clear ow ⟨c.nt + 1, []⟩ := fun b q h => by
 have := s.wo.rt _ _ h
 simp [Loc.ext] at this
 omega
theorem moveV_out (s : St c w0 S0 o0 cargs e a w S ow) {mvr : Nat -> Bool} {tl : Loc} (hmt : mvr tl.r = false) (htr : tl.r <= c.nt) (ct : clear ow tl) {v : Value} {x y : AVal} {e1 : Env}
  (r : RepV w.heap S ow ⟨c.nt + 1, []⟩ v x) (h : moveV mvr x e = some (y, e1)) : ∃ o1, St c w0 S0 o0 cargs e1 a w S o1 /\ RepV w.heap S o1 tl v y /\ newAt ow o1 tl := by
 obtain ⟨h1, h2, h3, h4⟩ := moveV_agg h
 by_cases hx : x = .undef
 ·subst hx
  simp only [moveV] at h
  cases h
  exact ⟨ow, s, .inl (.inl rfl), newAt.refl _ _⟩
 ·have ht : ∀ xs, x ≠ .tup xs := fun xs hx => by subst hx; simp [moveV] at h
  obtain ⟨o1, s1, r1, n1, _⟩ := moveV_sound hmt htr s.clear_far x s ct (fun _ _ h _ => h) (fun _ _ h => .inl h) (r.ones hx ht) h
  refine ⟨o1, s1, .inl (.inr ⟨r1, ?_⟩), n1⟩
  rw [h1]
  rcases r with (r | ⟨_, r⟩) | ⟨_, xs, r, _⟩
  ·exact absurd r hx
  ·exact r
  ·exact absurd r (ht xs)
theorem fixNil_rep {P : Program} {t : TypeId} {h : Array Obj} {l : Loc} {v : Value} {x : AVal} (r : RepV h S ow l v x) : RepV h S ow l v (fixNil P t x) := by
 unfold fixNil
 split
 ·split
  ·obtain ⟨rfl, _⟩ := r.lit
   exact .mk rfl rfl .nil
  ·exact r
 ·exact r
theorem moveK_out (s : St c w0 S0 o0 cargs e a w S ow) {mvr : Nat -> Bool} {tl : Loc} (hmt : mvr tl.r = false) (htr : tl.r <= c.nt) (ct : clear ow tl) {v : Value} {x : AVal} {K : AVal -> Env -> Prop}
  (r : RepV w.heap S ow ⟨c.nt + 1, []⟩ v x) (h : moveK mvr x e K) : ∃ y e1 o1, K y e1 /\ St c w0 S0 o0 cargs e1 a w S o1 /\ RepV w.heap S o1 tl v y /\ newAt ow o1 tl /\ y.w = x.w /\ isAggA y = isAggA x /\ (x ≠ .undef -> y ≠ .undef) /\ ∀ xs, y ≠ .tup xs := by
 unfold moveK at h
 split at h
 ·rename_i y e1 hm
  obtain ⟨o1, s1, r1, n1⟩ := moveV_out s hmt htr ct r hm
  obtain ⟨h1, h2, h3, h4⟩ := moveV_agg hm
  exact ⟨y, e1, o1, h, s1, r1, n1, h2, h1, fun hx hy => hx (h3.2 hy), h4⟩
 ·exact h.elim
theorem mvr_self (c : Ctx) (rid t : Nat) : c.mvr rid t t = false := by simp [Ctx.mvr]
def newO (o : Own) (n : Nat) (tl : Loc) : Own := fun b => if b = n then some tl else o b
theorem newO_at (o : Own) (n : Nat) (tl : Loc) : newO o n tl n = some tl := by simp [newO]
theorem newO_newAt {o : Own} {n : Nat} {tl t : Loc} (h : ∃ q, tl = t.ext q) : newAt o (newO o n tl) t := fun b m hb => by
 unfold newO at hb
 split at hb
 ·cases hb; exact .inr h
 ·exact .inl hb
structure OneMore (w w1 : World) : Prop where
 os : w1.os = w.os
 tape : w1.tape = w.tape
 output : w1.output = w.output
 size : w1.heap.size = w.heap.size + 1
 old : ∀ b, b < w.heap.size -> w1.heap[b]? = w.heap[b]?
theorem OneMore.alloc (w : World) (ob : Obj) : OneMore w (w.alloc ob) := ⟨rfl, rfl, rfl, by simp, fun b h => heap_alloc_old w ob b h⟩
theorem St.newBlock (s : St c w0 S0 o0 cargs e a w S ow) {w1 : World} (hm : OneMore w w1) {tl : Loc} (ht : ∀ b, ow b ≠ some tl) (htr : tl.r <= c.nt) :
  St c w0 S0 o0 cargs e a w1 S (newO ow w.heap.size tl) /\ (∀ b m, ow b = some m -> newO ow w.heap.size tl b = some m) := by
 have old : ∀ b m, ow b = some m -> newO ow w.heap.size tl b = some m := fun b m h => by
  have := (s.wo.lt b m h).1
  unfold newO
  rw [if_neg (by omega), h]
 have wo' : Wo c.g c.nt w1 S (newO ow w.heap.size tl) := by
  refine ⟨?_, ?_, ?_, ?_, c.g.stay _ _ (fun b hb => hm.old b (Nat.lt_of_lt_of_le hb s.wo.ngs)) s.wo.gl, by rw [hm.size]; have := s.wo.ngs; omega⟩
  ·intro b m h
   unfold newO at h
   split at h
   ·cases h; exact htr
   ·exact s.wo.rt _ _ h
  ·intro b b' m h h'
   unfold newO at h h'
   split at h <;> split at h'
   ·omega
   ·cases h; exact absurd h' (ht _)
   ·cases h'; exact absurd h (ht _)
   ·exact s.wo.inj _ _ _ h h'
  ·intro b m h
   rw [hm.size]
   unfold newO at h
   split at h
   ·rename_i hb
    exact ⟨by omega, by rw [hb]; exact s.wo.ngs⟩
   ·have := s.wo.lt _ _ h
    exact ⟨by omega, this.2⟩
  ·intro b h
   have := s.wo.sh b h
   rw [hm.size]
   exact ⟨by unfold newO; rw [if_neg (by omega)]; exact this.1, by omega⟩
 have fr' : Fr w0 S0 o0 w1 S (newO ow w.heap.size tl) := by
  refine ⟨hm.os.trans s.fr.os, hm.tape.trans s.fr.tape, hm.output.trans s.fr.output, by rw [hm.size]; have := s.fr.size; omega, fun b h1 h2 => ?_, s.fr.grow, s.fr.only, fun b hb => (s.fr.shp b hb).trans (.of_eq (hm.old b (Nat.lt_of_lt_of_le hb s.fr.size)))⟩
  have hlt := Nat.lt_of_lt_of_le h1 s.fr.size
  exact ⟨by unfold newO; rw [if_neg (by omega)]; exact (s.fr.old b h1 h2).1, (hm.old b hlt).trans (s.fr.old b h1 h2).2⟩
 refine ⟨?_, old⟩
 have := s.world (e' := fun r => killP (fun _ => false) (e r)) (fun _ => false) (fun _ => False) wo' fr' (fun b h => ⟨h, hm.old b (s.wo.sh b h).2⟩) (fun b m h _ => ⟨old b m h, .of_eq (hm.old b (s.wo.lt b m h).1)⟩)
  (fun r _ b p h => ⟨old b _ h, hm.old b (s.wo.lt b _ h).1⟩) (fun _ h => h.elim) (fun _ _ => rfl) (fun h => h)
 have hk : (fun r => killP (fun _ => false) (e r)) = e := by
  funext r
  exact killP_false _
 rwa [hk] at this
theorem St.alloc (s : St c w0 S0 o0 cargs e a w S ow) (ob : Obj) {tl : Loc} (ht : ∀ b, ow b ≠ some tl) (htr : tl.r <= c.nt) :
  St c w0 S0 o0 cargs e a (w.alloc ob) S (newO ow w.heap.size tl) /\ (∀ b m, ow b = some m -> newO ow w.heap.size tl b = some m) /\ (w.alloc ob).heap[w.heap.size]? = some ob :=
 ⟨(s.newBlock (.alloc w ob) ht htr).1, (s.newBlock (.alloc w ob) ht htr).2, heap_alloc_new w ob⟩
theorem St.drew (s : St c w0 S0 o0 cargs e a w S ow) : St c w0 S0 o0 cargs e a { w with drawn := w.drawn + 1 } S ow :=
 ⟨⟨s.wo.rt, s.wo.inj, s.wo.lt, s.wo.sh, c.g.stay w _ (fun _ _ => rfl) s.wo.gl, s.wo.ngs⟩, ⟨s.fr.os, s.fr.tape, s.fr.output, s.fr.size, s.fr.old, s.fr.grow, s.fr.only, s.fr.shp⟩, s.env, s.lim, s.sz, s.df, s.mu⟩
theorem Rep.grown {h h' : Array Obj} {o o' : Own} {l : Loc} {cs : List Value} {x : AVal} (r : Rep h S o l cs x) (hS : ∀ b, S b -> h'[b]? = h[b]?) (ho : ∀ b m, o b = some m -> o' b = some m /\ h'[b]? = h[b]?) : Rep h' S o' l cs x := by
 have := r.move (fun _ => false) (S' := S) (fun b hb => ⟨hb, hS b hb⟩) (fun b m hb _ => ⟨(ho b m hb).1, .of_eq (ho b m hb).2⟩) l fun b q hb => ho b _ hb
 rwa [killP_false] at this
theorem RepV.grown {h h' : Array Obj} {o o' : Own} {l : Loc} {v : Value} {x : AVal} (r : RepV h S o l v x) (hS : ∀ b, S b -> h'[b]? = h[b]?) (ho : ∀ b m, o b = some m -> o' b = some m /\ h'[b]? = h[b]?) : RepV h' S o' l v x := by
 have := r.move (fun _ => false) (S' := S) (fun b hb => ⟨hb, hS b hb⟩) (fun b m hb _ => ⟨(ho b m hb).1, .of_eq (ho b m hb).2⟩) l fun b q hb => ho b _ hb
 rwa [killP_false] at this
mutual
theorem flatZ_rep {h : Array Obj} {o : Own} : ∀ {x : AVal} {cs : List Value}, flatZ x = some cs -> ∀ l, Rep h S o l cs x := by
 intro x cs hf l
 cases x with
 | lit v =>
  simp only [flatZ] at hf
  split at hf
  ·rename_i hv
   cases hf
   exact .shd (.lit (litOkB_ok hv))
  ·cases hf
 | agg xs =>
  simp only [flatZ] at hf
  obtain ⟨css, h1, rfl, h2⟩ := flatZs_rep (h := h) (o := o) hf
  exact .agg h1 fun i c x hc hx => h2 i c x hc hx _
 | lst own sz xs =>
  cases own <;> cases xs <;> simp only [flatZ] at hf <;> cases hf
  exact .nil
 | _ => simp [flatZ] at hf
theorem flatZs_rep {h : Array Obj} {o : Own} : ∀ {xs : List AVal} {cs : List Value}, flatZs xs = some cs -> ∃ css : List (List Value), css.length = xs.length /\ cs = css.flatten ∧
  ∀ (i : Nat) (c : List Value) (x : AVal), css[i]? = some c -> xs[i]? = some x -> ∀ l, Rep h S o l c x := by
 intro xs cs hf
 cases xs with
 | nil => simp [flatZs] at hf; subst hf; exact ⟨[], rfl, rfl, by simp⟩
 | cons x xs =>
  simp only [flatZs] at hf
  split at hf
  ·rename_i ca cb h1 h2
   cases hf
   obtain ⟨css, h3, rfl, h4⟩ := flatZs_rep (h := h) (o := o) h2
   refine ⟨ca :: css, by simp [h3], by simp, fun i c y hc hy => ?_⟩
   cases i with
   | zero => simp at hc hy; subst hc hy; exact flatZ_rep h1
   | succ i => exact h4 i c y (by simpa using hc) (by simpa using hy)
  ·cases hf
end
theorem zeroOf_ok {P : Program} {t : TypeId} {x : AVal} (h : zeroOf P t = some x) : ∃ i z, P.info? t = some i /\ i.zero = some z /\ i.size = x.w /\ isAggA x = isAggV z /\ ∀ (hp : Array Obj) (o : Own) (l : Loc), Rep hp S o l z.cells.toList x := by
 unfold zeroOf at h
 split at h
 ·rename_i y i h1 h2
  split at h
  ·rename_i cs z h3 h4
   split at h
   ·rename_i h5
    cases h
    simp only [Bool.and_eq_true, beq_iff_eq] at h5
    obtain ⟨⟨h5, h6⟩, h7⟩ := h5
    exact ⟨i, z, h2, h4, h7, h6, fun hp o l => beqZs_eq h5 ▸ flatZ_rep h3 l⟩
   ·cases h
  ·cases h
 ·cases h
theorem cellsOf_pos {P : Program} {t : TypeId} (h : 0 < P.cellsOf t) : ∃ i, P.info? t = some i /\ i.size = P.cellsOf t := by
 unfold Program.cellsOf at *
 cases hi : P.info? t with
 | none => simp [hi] at h
 | some i => exact ⟨i, rfl, by simp⟩
end Go.VS
/- VS, eleventh part: the operations are sound (2). -/
set_option linter.unusedVariables false
set_option linter.unusedSimpArgs false
namespace Go.VS
variable {c : Ctx} {w0 : World} {S0 : Nat -> Prop} {o0 : Own} {cargs : Array Value} {e : Env} {a : Act} {w : World} {S : Nat -> Prop} {ow : Own}
def constsOk (c : Ctx) (o : Op) : Bool := o.operands.all (constOk c)
theorem constsOk_mem {c : Ctx} {o : Op} (h : constsOk c o = true) {x : Operand} (hx : x ∈ o.operands) : constOk c x = true := by
 unfold constsOk at h
 exact Array.all_eq_true_iff_forall_mem.1 h x hx
section
variable {rid t : Nat} {o : Oper} {K : AVal -> Env -> Prop}
theorem ok_move (s : St c w0 S0 o0 cargs e a w S ow) (hc : constsOk c o.op = true) {x : Operand} (ho : o.op = .move x) (h : K (opV e x) e) :
  POut c a w S ow o t e K := by
 refine ⟨a.eval x, fun w' hw' => by simp [execOp, ho], _, h, (opV_sound s x (constsOk_mem hc (by simp [ho, Op.operands])) _)⟩
theorem ok_assign (s : St c w0 S0 o0 cargs e a w S ow) (ht : free ow t) (htn : t <= c.nt) (hc : constsOk c o.op = true) {x : Operand} (ho : o.op = .assign x)
  (h : moveK (c.mvr rid t) (fixNil c.g.P o.type (opV e x)) e K) :
  ∃ v w1, (execOp a.eval o).run c.g.P w = .ok (.value v) w1 /\ Out c w0 S0 o0 cargs a w t ow K v w1 := by
 obtain ⟨y, e1, o1, hK, s1, r1, n1, _⟩ := moveK_out s (tl := ⟨t, []⟩) (mvr_self c rid t) htn (ht.clear []) (fixNil_rep (opV_sound s x (constsOk_mem hc (by simp [ho, Op.operands])) _)) h
 exact ⟨a.eval x, w, by simp [execOp, ho], y, e1, S, o1, hK, s1, r1, n1, Quiet.refl _⟩
theorem ok_pick (s : St c w0 S0 o0 cargs e a w S ow) (hc : constsOk c o.op = true) {x y z : Operand} (ho : o.op = .pick x y z) {q : Bool} (hx : opV e x = .lit (.bool q)) (h1 : q = true -> K (opV e y) e) (h2 : q = false -> K (opV e z) e) :
  POut c a w S ow o t e K := by
 have r := opV_sound s x (constsOk_mem hc (by simp [ho, Op.operands])) ⟨t, []⟩
 rw [hx] at r
 obtain ⟨hv, _⟩ := r.lit
 cases q
 ·refine ⟨a.eval z, fun w' hw' => by simp [execOp, ho, hv, asBool], _, (h2 rfl), (opV_sound s z (constsOk_mem hc (by simp [ho, Op.operands])) _)⟩
 ·refine ⟨a.eval y, fun w' hw' => by simp [execOp, ho, hv, asBool], _, (h1 rfl), (opV_sound s y (constsOk_mem hc (by simp [ho, Op.operands])) _)⟩
theorem ok_nilCheck (s : St c w0 S0 o0 cargs e a w S ow) (hc : constsOk c o.op = true) {x : Operand} (ho : o.op = .nilCheck x)
  (h : match opV e x with | .adr l i fs off => K (.adr l i fs off) e | .ptr false y => K (.ptr false y) e | _ => False) :
  POut c a w S ow o t e K := by
 have r := opV_sound s x (constsOk_mem hc (by simp [ho, Op.operands])) ⟨t, []⟩
 split at h
 ·rename_i hx
  rw [hx] at r
  obtain ⟨b, cur, t1, fr, hv, _⟩ := (r.one (by simp) rfl (by simp)).adr_inv
  simp only [List.cons.injEq, and_true] at hv
  exact ⟨a.eval x, fun w' hw' => by simp [execOp, ho, hv], _, h, r⟩
 ·rename_i hx
  rw [hx] at r
  obtain ⟨_, b, off, cur, t1, fr, hv, _⟩ := (r.one (by simp) rfl (by simp)).shd_ptr_inv.ptr_inv
  simp only [List.cons.injEq, and_true] at hv
  exact ⟨a.eval x, fun w' hw' => by simp [execOp, ho, hv], _, h, r⟩
 ·exact h.elim
theorem run_alloc_new (P : Program) (w : World) (ty : TypeId) {i : TypeInfo} {z : Value} (hi : P.info? ty = some i) (hz : i.zero = some z) :
  (Instr.alloc ty true (.tuple #[])).run P w = .ok (.pointer (some ⟨w.heap.size, 0, none⟩)) (w.alloc (.cells z.cells ty)) := by
 simp [Instr.alloc, zeroValue, typeInfo, hi, hz, newVar, newRow]
theorem frOk_zero (n : Nat) : frOk (0, 0) n := fun j _ h => by simp at h
theorem ok_alloc (s : St c w0 S0 o0 cargs e a w S ow) (ht : free ow t) (htn : t <= c.nt) {ty : TypeId} (ho : o.op = .alloc ty) {z : AVal} (hz : zeroOf c.g.P ty = some z) (h : K (.ptr true z) e) :
  ∃ v w1, (execOp a.eval o).run c.g.P w = .ok (.value v) w1 /\ Out c w0 S0 o0 cargs a w t ow K v w1 := by
 obtain ⟨i, zv, hi, hzv, hsz, hag, hrep⟩ := zeroOf_ok (S := S) hz
 obtain ⟨s1, hold, hnew⟩ := s.alloc (.cells zv.cells ty) (tl := ⟨t, []⟩) (fun b hb => ht b _ hb rfl) htn
 refine ⟨_, _, by simp [execOp, ho, run_alloc_new c.g.P w ty hi hzv], .ptr true z, e, S, _, h, s1, .mk rfl rfl (.ptr hnew (newO_at _ _ _) (frOk_zero _) (hrep _ _ _)), newO_newAt ⟨[], by simp [Loc.ext]⟩, fun b hb => heap_alloc_old w _ b hb⟩
theorem ok_box (s : St c w0 S0 o0 cargs e a w S ow) (ht : free ow t) (htn : t <= c.nt) (hc : constsOk c o.op = true) {ty : TypeId} {x : Operand} (ho : o.op = .box ty x)
  (h : moveK (c.mvr rid t) (fixNil c.g.P ty (opV e x)) e fun y e1 => isUndef y = false /\ K (.ptr true y) e1) :
  ∃ v w1, (execOp a.eval o).run c.g.P w = .ok (.value v) w1 /\ Out c w0 S0 o0 cargs a w t ow K v w1 := by
 obtain ⟨y, e1, o1, ⟨huy, hK⟩, s1, r1, n1, hw, hag, _, hty⟩ := moveK_out s (tl := (⟨t, []⟩ : Loc).idx 0) (mvr_self c rid t) htn (ht.clear _) (fixNil_rep (opV_sound s x (constsOk_mem hc (by simp [ho, Op.operands])) _)) h
 have huy' : y ≠ .undef := fun h => by subst h; cases huy
 have hne : ∀ b, o1 b ≠ some ⟨t, []⟩ := fun b hb => by
  rcases n1 _ _ hb with h1 | ⟨q, h1⟩
  ·exact ht b _ h1 rfl
  ·simp [Loc.idx, Loc.ext] at h1
 obtain ⟨s2, hold, hnew⟩ := s1.alloc (.cells (a.eval x).cells ty) (tl := ⟨t, []⟩) hne htn
 refine ⟨.pointer (some ⟨w.heap.size, 0, none⟩), w.alloc (.cells (a.eval x).cells ty), ?_, .ptr true y, e1, S, _, hK, s2, .mk rfl rfl (.ptr hnew (newO_at _ _ _) (frOk_zero _) ?_), (newAt.up (q := [.idx 0]) n1).trans (newO_newAt ⟨[], by simp [Loc.ext]⟩), fun b hb => heap_alloc_old w _ b hb⟩
 ·simp [execOp, ho, Instr.box, newVar, newRow]
 ·refine (r1.ones huy' hty).grown (fun b hb => ?_) fun b m hb => ⟨hold b m hb, ?_⟩
  ·exact heap_alloc_old w _ b (s1.wo.sh b hb).2
  ·exact heap_alloc_old w _ b (s1.wo.lt b m hb).1
theorem w_one {x : AVal} (h : isAggA x = false) : x.w = 1 := by
 cases x <;> simp_all [isAggA, AVal.w]
theorem load_rep (P : Program) (w : World) (ty : TypeId) {b off : Nat} {cur : Array Value} {t1 : TypeId} {fr : Nat × Nat} (hb : w.heap[b]? = some (.cells cur t1 fr)) {y : AVal} (hp : 0 < y.w) (hw : y.w = P.cellsOf ty)
  (hag : aggT P ty = some (isAggA y)) {l : Loc} (hfit : off + y.w <= cur.size) (r : Rep w.heap S ow l ((cur.toList.drop off).take y.w) y) :
  ∃ v, (∀ w' : World, w'.heap[b]? = w.heap[b]? -> (loadVar ty ⟨b, off, none⟩).run P w' = .ok v w') /\ RepV w.heap S ow l v y := by
 obtain ⟨i, hi, his⟩ := cellsOf_pos (hw ▸ hp)
 have cell : ∀ (w' : World), w'.heap[b]? = w.heap[b]? -> ∀ j, off + j < cur.size -> w'.cell? ((⟨b, off, none⟩ : Addr).add j) = cur[off + j]? := by
  intro w' hw' j hj
  have : (⟨b, off, none⟩ : Addr).add j = ⟨b, off + j, none⟩ := by unfold Addr.add; split <;> simp_all
  rw [this, cell_of_row w' b (off + j) cur t1 fr (hw'.trans hb)]
 cases hA : isAggA y with
 | true =>
  rw [hA] at hag
  refine ⟨.agg ((cur.toList.drop off).take y.w).toArray, fun w' hw' => ?_, .inl (.inr ⟨by simpa [Value.cells] using r, hA⟩)⟩
  have hia : (isAgg ty).run P w' = .ok true w' := by
   unfold aggT at hag
   split at hag <;> first | (rename_i hd; simp [isAgg, run_underlying hd]; done) | (simp at hag; done) | skip
  have hl := run_loadCells_list (P := P) w' ⟨b, off, none⟩ ((cur.toList.drop off).take y.w) (fun j v hj => by
   rw [List.getElem?_take] at hj
   split at hj
   ·rename_i hlt
    rw [cell w' hw' j (by omega)]
    rw [List.getElem?_drop] at hj
    simpa using hj
   ·cases hj)
  have hlen : ((cur.toList.drop off).take y.w).length = y.w := by simp; omega
  rw [hlen] at hl
  simp [loadVar, hia, sizeOf, typeInfo, hi, his, <- hw, hl]
 | false =>
  rw [hA] at hag
  have hone := w_one hA
  have hlt : off < cur.size := by omega
  have hv : (cur.toList.drop off).take y.w = [cur[off]] := by
   rw [hone, List.drop_eq_getElem_cons (by simpa using hlt)]
   simp
  rw [hv] at r
  have h1 := r.ones cur[off] (by simp)
  refine ⟨cur[off], fun w' hw' => ?_, .mk (by cases hc : cur[off] <;> simp_all [Value.oneCell', isAggV]) hA r⟩
  have hia : (isAgg ty).run P w' = .ok false w' := by
   unfold aggT at hag
   split at hag <;> first | (rename_i hd; simp [isAgg, run_underlying hd]; done) | (simp at hag; done) | skip
  have h0 := cell w' hw' 0 (by omega)
  rw [Nat.add_zero] at h0
  have hadd0 : (⟨b, off, none⟩ : Addr).add 0 = ⟨b, off, none⟩ := by simp [Addr.add]
  rw [hadd0] at h0
  simp [loadVar, hia, h0, hlt]
end
end Go.VS
