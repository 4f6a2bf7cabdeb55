/- VS: a parameter of an open claim, opened as a tree that is shared. -/
import Derived.Test.YtejhoajebbigbaaGreatDoorVn
import Derived.WalkKit
import Derived.SizedLaws
import Derived.ChangeSlices
import Derived.ChangeArms
import Derived.Deep.Slices
import Derived.Below
namespace Go.VS
open Go.RowKit Go.ChangeShapes Go.WideShapes Go.Deep
set_option linter.unusedVariables false
set_option linter.unusedSimpArgs false
variable {P : Program} {α β : Type}
def allS (W : World) : Nat -> Prop := fun b => b < W.heap.size
structure OpensS (P : Program) (t : TypeId) (f : α -> AVal) (good : α -> Prop) : Prop where
 w : ∀ x, (f x).w = P.cellsOf t
 out : ∀ {H : Type} (enc : TypeId × Value -> H) (W : World) (n : Nat) (cs : List Value) (y : DataW H × List MemPlace),
  DataW.trod enc P W 0 (fun _ => true) true n t cs = some y -> (∀ m ∈ y.1.weights P t, m <= reachBytes) -> ∃ x, RepS W.heap (allS W) cs (f x) /\ good x
theorem openS_int {t : TypeId} {k : IntKind} (ht : P.underlying t = some (.int k)) (hc : P.cellsOf t = 1) : OpensS P t (fun z : Int => .lit (.int k z)) (fun _ => True) := by
 refine ⟨fun x => by rw [hc]; rfl, ?_⟩
 intro H enc W n cs y h _
 obtain ⟨z, rfl, _, hw⟩ := DataW.trod_int ht h
 refine ⟨z, .lit ?_, trivial⟩
 simp only [Lit.wf, Bool.and_eq_true, decide_eq_true_eq] at hw
 exact hw
theorem openS_string {t : TypeId} (ht : P.underlying t = some .string) (hc : P.cellsOf t = 1) : OpensS P t (fun s : ByteArray => .lit (.string s)) (fun x => x.size <= 140737488351232) := by
 refine ⟨fun x => by rw [hc]; rfl, ?_⟩
 intro H enc W n cs y h hw
 obtain ⟨s, rfl, rfl, _⟩ := DataW.trod_string ht h
 have := hw s.data.toList.length (by simp [DataW.weights])
 have h2 : s.size <= reachBytes := by simpa using this
 have h2 : s.size <= 140737488351232 := h2
 exact ⟨s, .lit (by show s.size <= maxLen; simp only [maxLen]; omega), h2⟩
theorem weightsS_mem {H : Type} {e : TypeId} : ∀ {l : List (DataW H)} {d : DataW H}, d ∈ l -> ∀ m ∈ d.weights P e, m ∈ DataW.weightsAll P e l
 | d0 :: l, d, hd, m, hm => by
  simp only [DataW.weightsAll, List.mem_append]
  rcases List.mem_cons.mp hd with rfl | h
  ·exact .inl hm
  ·exact .inr (weightsS_mem h m hm)
theorem openS_slice {sz : Nat} (b : Nat) {t e : TypeId} {f : α -> AVal} {good : α -> Prop} (ht : P.underlying t = some (.slice e)) (hct : P.cellsOf t = 1) (hc : P.cellsOf e = sz) (hp : 0 < sz) (hb : P.bytesOf e = b) (he : OpensS P e f good) :
  OpensS P t (fun l : List α => .lst false sz (l.map f)) (fun l => l.length * b <= 140737488351232 /\ ∀ x ∈ l, good x) := by
 subst hb
 subst hc
 refine ⟨fun x => by rw [hct]; rfl, ?_⟩
 intro H enc W n cs y h hw
 rcases open_slice ht h with ⟨rfl, rfl⟩ | ⟨a, len, cap, m, k, D, Pl, rfl, hcap, hl, hm, hmm, rfl, hx⟩
 ·exact ⟨[], .emp (by decide), by simp, by simp⟩
 ·simp only [if_true] at hmm
  subst hmm
  have each : ∀ i, i < len -> ∃ x : α, good x /\ ∃ c, c.length = P.cellsOf e /\ RepS W.heap (allS W) c (f x) /\ ∀ j u, c[j]? = some u -> W.cell? (a.add (i * P.cellsOf e + j)) = some u := by
   intro i hi
   obtain ⟨cs', h1, h2⟩ := hx i (by omega)
   obtain ⟨x, hk, hg⟩ := he.out enc W k cs' (D i, Pl i) h2 (fun z hz => hw z (by
    simp only [DataW.weights, ht]
    refine List.mem_cons_of_mem _ (List.mem_append_left _ (weightsS_mem (d := D i) ?_ z hz))
    exact List.mem_map.mpr ⟨i, List.mem_range.mpr hi, rfl⟩))
   obtain ⟨_, hln, hcell⟩ := World.cells?_some h1
   refine ⟨x, hg, cs', hln, hk, fun j u hj => ?_⟩
   have hj' := (List.getElem?_eq_some_iff.mp hj).1
   have := hcell j (by omega)
   rw [Addr.add_add, hj] at this
   exact this
  have hN : ∃ l : List α, l.length = len /\ ∀ i (hi : i < l.length), good l[i] /\ ∃ c, c.length = P.cellsOf e /\ RepS W.heap (allS W) c (f l[i]) /\ ∀ j u, c[j]? = some u -> W.cell? (a.add (i * P.cellsOf e + j)) = some u := by
   clear hx hw hm hl h
   induction len with
   | zero => exact ⟨[], rfl, fun i hi => absurd hi (by simp)⟩
   | succ len ih =>
    obtain ⟨l, hl, h⟩ := ih (fun i hi => each i (by omega))
    obtain ⟨x, hg, hx⟩ := each len (by omega)
    refine ⟨l ++ [x], by simp [hl], fun i hi => ?_⟩
    by_cases e : i < l.length
    ·rw [List.getElem_append_left e]
     exact h i e
    ·have : i = l.length := by simp at hi; omega
     subst this
     rw [List.getElem_append_right (Nat.le_refl _)]
     simp only [Nat.sub_self, List.getElem_cons_zero]
     rw [hl]
     exact ⟨hg, hx⟩
  obtain ⟨l, rfl, hall⟩ := hN
  refine ⟨l, ?_, ?_, fun x hx => ?_⟩
  ·by_cases h0 : 0 < l.length
   ·obtain ⟨_, c, hcl, _, hcell⟩ := hall 0 h0
    have c0 := hcell 0 c[0] (List.getElem?_eq_getElem (by omega))
    rw [Nat.zero_mul] at c0
    have hcur : ∃ cur ty fr, W.heap[a.block]? = some (.cells cur ty fr) /\ a.spot = none := by
     have ha : a.add (0 + 0) = a := by simp [Addr.add]
     rw [ha] at c0
     unfold World.cell? at c0
     cases hb : W.heap[a.block]? with
     | none => rw [hb] at c0; cases c0
     | some ob =>
      rw [hb] at c0
      cases ob with
      | cells cur ty fr =>
       refine ⟨cur, ty, fr, rfl, ?_⟩
       cases hs : a.spot with
       | none => rfl
       | some q => simp [hs] at c0
      | _ => cases c0
    obtain ⟨cur, ty, fr, hcur, hsp⟩ := hcur
    obtain ⟨ab, ao, asp⟩ := a
    simp only at hcur hsp
    subst hsp
    have cell : ∀ i, i < l.length -> ∀ j, j < P.cellsOf e -> ∀ c : List Value, (∀ j u, c[j]? = some u -> W.cell? (Addr.add ⟨ab, ao, none⟩ (i * P.cellsOf e + j)) = some u) -> c.length = P.cellsOf e -> cur[ao + i * P.cellsOf e + j]? = c[j]? := by
     intro i hi j hj c hc hcl
     have hcj := hc j c[j] (List.getElem?_eq_getElem (by omega))
     have : W.cell? (Addr.add ⟨ab, ao, none⟩ (i * P.cellsOf e + j)) = cur[ao + (i * P.cellsOf e + j)]? := by
      by_cases h0 : i * P.cellsOf e + j = 0
      ·have ha : Addr.add ⟨ab, ao, none⟩ (i * P.cellsOf e + j) = ⟨ab, ao, none⟩ := by simp only [Addr.add, if_pos h0]
       rw [ha, h0, Nat.add_zero]
       simp [World.cell?, hcur]
      ·have ha : Addr.add ⟨ab, ao, none⟩ (i * P.cellsOf e + j) = ⟨ab, ao + (i * P.cellsOf e + j), none⟩ := by simp only [Addr.add, if_neg h0]
       rw [ha]
       simp [World.cell?, hcur]
     rw [this] at hcj
     rw [show ao + i * P.cellsOf e + j = ao + (i * P.cellsOf e + j) by omega, hcj]
     exact (List.getElem?_eq_getElem (by omega)).symm
    have hlast : ao + l.length * P.cellsOf e <= cur.size := by
     obtain ⟨_, c, hcl, _, hcell⟩ := hall (l.length - 1) (by omega)
     have := cell (l.length - 1) (by omega) (P.cellsOf e - 1) (by omega) c hcell hcl
     rw [List.getElem?_eq_getElem (by omega : P.cellsOf e - 1 < c.length)] at this
     have hlt := (Array.getElem?_eq_some_iff.1 this).1
     have e1 : (l.length - 1) * P.cellsOf e + P.cellsOf e = l.length * P.cellsOf e := by
      rw [<- Nat.succ_mul]
      congr 1
      omega
     omega
    have hmm : m <= maxLen := by omega
    rw [<- List.length_map (f := f) («as» := l)]
    refine .lst hcur (Array.getElem?_eq_some_iff.1 hcur).1 (by simpa using hlast) (by simpa using by omega) hmm fun i x hi => ?_
    have hil : i < l.length := by have := (List.getElem?_eq_some_iff.1 hi).1; simpa using this
    have hxi : x = f l[i] := by
     rw [List.getElem?_map, List.getElem?_eq_getElem hil] at hi
     exact (Option.some.inj hi).symm
    subst hxi
    obtain ⟨_, c, hcl, hrep, hcell⟩ := hall i hil
    have : (cur.toList.drop (ao + i * P.cellsOf e)).take (P.cellsOf e) = c := by
     apply List.ext_getElem?
     intro j
     rw [List.getElem?_take]
     split
     ·rename_i hj
      rw [List.getElem?_drop, Array.getElem?_toList]
      exact cell i hil j hj c hcell hcl
     ·rename_i hj
      exact (List.getElem?_eq_none (by omega)).symm
    rw [this]
    exact hrep
   ·have : l = [] := List.eq_nil_of_length_eq_zero (by omega)
    subst this
    exact .emp (by omega)
  ·have := hw ((l.length + (m - l.length)) * P.bytesOf e) (by simp [DataW.weights, ht])
   exact Nat.le_trans (Nat.mul_le_mul_right _ (by omega)) this
  ·obtain ⟨i, hi, rfl⟩ := List.getElem_of_mem hx
   exact (hall i hi).1
structure OpensFs (P : Program) (fs : List Field) (off n : Nat) (f : α -> List AVal) (good : α -> Prop) : Prop where
 w : ∀ x, AVal.ws (f x) = n
 out : ∀ {H : Type} (enc : TypeId × Value -> H) (W : World) (k : Nat) (cs : List Value) (ys : List (DataW H × List MemPlace)), cs.length = off + n -> ys.length = fs.length →
  (∀ (i : Nat) (f : Field), fs[i]? = some f -> DataW.trod enc P W 0 (fun _ => true) true k f.type ((cs.drop f.offset).take (P.cellsOf f.type)) = ys[i]?) →
  (∀ m ∈ DataW.weightsEach P (fs.map (·.type)) (ys.map (·.1)), m <= reachBytes) →
  ∃ x, (∃ css : List (List Value), css.length = (f x).length /\ css.flatten = cs.drop off /\ ∀ (i : Nat) (c : List Value) (z : AVal), css[i]? = some c -> (f x)[i]? = some z -> RepS W.heap (allS W) c z) /\ good x
theorem openF_last {fd : Field} {off n : Nat} {f : α -> AVal} {good : α -> Prop} (ho : fd.offset = off) (hc : P.cellsOf fd.type = n) (h : OpensS P fd.type f good) : OpensFs P [fd] off n (fun x => [f x]) good := by
 refine ⟨fun x => by rw [AVal.ws, AVal.ws, h.w, hc, Nat.add_zero], ?_⟩
 intro H enc W k cs ys hl hy hr hw
 match ys, hy with
 | [y], _ =>
  have h0 := hr 0 fd rfl
  rw [ho, hc, List.take_of_length_le (by simp; omega)] at h0
  obtain ⟨x, hx, hg⟩ := h.out enc W k _ y h0 (fun m hm => hw m (by simpa [DataW.weightsEach] using hm))
  refine ⟨x, ⟨[cs.drop off], rfl, by simp, fun i c z hi hz => ?_⟩, hg⟩
  match i with
  | 0 =>
   simp only [List.getElem?_cons_zero, Option.some.injEq] at hi hz
   subst hi hz
   exact hx
  | i + 1 => simp at hi
theorem openF_cons {fd : Field} {fs : List Field} {off off' n m : Nat} {fa : α -> AVal} {fb : β -> List AVal} {ga : α -> Prop} {gb : β -> Prop} (ho : fd.offset = off) (hc : P.cellsOf fd.type = n) (hoff : off' = off + n) (h : OpensS P fd.type fa ga)
  (hs : OpensFs P fs off' m fb gb) : OpensFs P (fd :: fs) off (n + m) (fun x : α × β => fa x.1 :: fb x.2) (fun x => ga x.1 /\ gb x.2) := by
 refine ⟨fun x => by rw [AVal.ws, h.w, hs.w, hc], ?_⟩
 intro H enc W k cs ys hl hy hr hw
 match ys, hy with
 | y :: ys, hy =>
  have h0 := hr 0 fd rfl
  rw [ho, hc] at h0
  obtain ⟨x, hx, gx⟩ := h.out enc W k _ y h0 (fun m hm => hw m (by simp [DataW.weightsEach]; exact .inl hm))
  obtain ⟨z, ⟨css, c1, c2, c3⟩, gz⟩ := hs.out enc W k cs ys (by omega) (by simpa using hy) (fun i g hg => hr (i + 1) g (by simpa using hg)) (fun m hm => hw m (by simp [DataW.weightsEach]; exact .inr (by simpa using hm)))
  refine ⟨(x, z), ⟨(cs.drop off).take n :: css, by simp [c1], ?_, fun i c u hi hu => ?_⟩, gx, gz⟩
  ·rw [List.flatten_cons, c2, hoff, <- List.drop_drop, List.take_append_drop]
  ·match i with
   | 0 =>
    simp only [List.getElem?_cons_zero, Option.some.injEq] at hi hu
    subst hi hu
    exact hx
   | i + 1 => exact c3 i c u (by simpa using hi) (by simpa using hu)
theorem openS_struct {t : TypeId} {fs : List Field} {n : Nat} {f : α -> List AVal} {good : α -> Prop} (ht : P.underlying t = some (.struct fs.toArray)) (hc : P.cellsOf t = n) (h : OpensFs P fs 0 n f good) : OpensS P t (fun x => .agg (f x)) good := by
 refine ⟨fun x => by rw [AVal.w, h.w, hc], ?_⟩
 intro H enc W n' cs y hy hw
 obtain ⟨xs, k, _, rfl, hl, hlen, hf⟩ := DataW.trod_struct ht hy
 obtain ⟨x, ⟨css, c1, c2, c3⟩, hg⟩ := h.out enc W k cs xs (by omega) (by simpa using hlen) (fun i f hi => hf i f (by simpa using hi)) (fun m hm => hw m (by simpa [DataW.weights, ht] using hm))
 rw [List.drop_zero] at c2
 subst c2
 exact ⟨x, .agg c1 c3, hg⟩
theorem openS_iso {t : TypeId} {f : α -> AVal} {f' : β -> AVal} {good : α -> Prop} (g : α -> β) (b : β -> α) (hfg : ∀ x, f' (g x) = f x) (hgb : ∀ x, g (b x) = x) (hbg : ∀ x, b (g x) = x) (h : OpensS P t f good) : OpensS P t f' (fun x => good (b x)) := by
 refine ⟨fun x => by rw [<- hgb x, hfg]; exact h.w _, ?_⟩
 intro H enc W n cs y hy hw
 obtain ⟨x, hx, gx⟩ := h.out enc W n cs y hy hw
 exact ⟨g x, by rw [hfg]; exact hx, by rw [hbg]; exact gx⟩
theorem openS_param {H : Type} {enc : TypeId × Value -> H} {W : World} {t : TypeId} {f : α -> AVal} {good : α -> Prop} (h : OpensS P t f good) {v : Value} {y : DataW H} {p : List MemPlace} (hv : DataW.Trod enc P W 0 (fun _ => true) true t v y p)
  {ts : List TypeId} {ds : List (DataW H)} {j : Nat} (hsz : (DataW.weightsEach P ts ds).all (· <= reachBytes) = true) (hj : ts[j]? = some t) (hd : ds[j]? = some y) : ∃ x, RepS W.heap (allS W) v.cells.toList (f x) /\ good x := by
 obtain ⟨n, hn⟩ := hv
 exact h.out enc W n _ (y, p) hn (fun m hm => by simpa using List.all_eq_true.1 hsz _ (DataW.weights_mem_each hj hd m hm))
theorem VCalls.calls {g : Sys} {f : FuncId} {xs : List AVal} {Post : AVal -> AVal -> Prop} (h : VCalls g f xs none Post) {W : World} {args : Array Value} (hent : (callFunc f args).run g.P W = .ok (.enter f args) W) (hg : g.Gl W) (hng : g.ng <= W.heap.size) (hsz : args.size = xs.length)
  (hr : ∀ (i : Nat) (v : Value) (x : AVal), args[i]? = some v -> xs[i]? = some x -> RepV W.heap (allS W) (fun _ => none) ⟨i, []⟩ v x) :
  Calls g.P f args W fun e W' => Below W.heap.size W W' /\ ∃ v y x' S o, e = .returned v /\ Post y x' /\ RepV W'.heap S o ⟨xs.length, []⟩ v y := by
 have := h W (allS W) (fun _ => none) args hsz ⟨fun b m hb => (by cases hb), fun b b' m hb => (by cases hb), fun b m hb => (by cases hb), fun b hb => ⟨rfl, hb⟩, hg, hng⟩ (fun b l hb => by cases hb) hr
 unfold Gives at this
 rw [hent] at this
 refine Calls.mono this fun e W' he => ?_
 cases e with
 | returned v =>
  obtain ⟨y, x', S', o', h1, h2, h3, h4, h5, h6, h7⟩ := he
  exact ⟨⟨h3.os, h3.tape, h3.output, h3.size, fun k hk => (h3.old k hk rfl).2⟩, v, y, x', S', o', rfl, h1, h5⟩
 | _ => exact he.elim
end Go.VS
