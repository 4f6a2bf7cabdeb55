/- VS, twenty-ninth part: append, how it runs. -/
import Derived.Test.YtejhoajebbigbaaGreatDoorVd
import Derived.Attr
set_option linter.unusedVariables false
set_option linter.unusedSimpArgs false
namespace Go.VS
def BaseIs (w : World) (size : Nat) (v : Value) (n : Nat) (xs : List Value) (g : Option Nat) : Prop :=
 xs.length = n * size ∧
 ((v = .slice none 0 0 /\ n = 0 /\ g = none) ∨
  ∃ b cap cur t1 fr, g = some b /\ v = .slice (some ⟨b, 0, none⟩) n cap /\ w.heap[b]? = some (.cells cur t1 fr) /\ frOk fr cur.size /\ n <= cap /\ cap <= maxLen /\ cur.size = cap * size /\ cur.toList.take (n * size) = xs)
inductive AppRes (w : World) (el : TypeId) (size : Nat) (v : Value) (n m : Nat) (xs news : List Value) (g : Option Nat) : Value -> World -> Prop
 | none : v = .slice none 0 0 -> m = 0 -> AppRes w el size v n m xs news g (.slice none 0 0) w
 | room {b cap : Nat} {cur : Array Value} {t1 : TypeId} {fr : Nat × Nat} : g = some b -> v = .slice (some ⟨b, 0, none⟩) n cap -> w.heap[b]? = some (.cells cur t1 fr) -> n + m <= cap -> (n + m) * size <= cur.size →
   AppRes w el size v n m xs news g (.slice (some ⟨b, 0, none⟩) (n + m) cap) (w.setRow b (spliced cur (n * size) news).toArray)
 | grown {cap : Nat} {cur : Array Value} : n + m <= cap -> cap <= maxLen -> cur.size = cap * size -> cur.toList.take ((n + m) * size) = xs ++ news →
   AppRes w el size v n m xs news g (.slice (some ⟨w.heap.size, 0, none⟩) (n + m) cap) (w.drew.alloc (.cells cur el))
theorem run_append {P : Program} (w : World) (t t2 ty e : TypeId) (i : TypeInfo) (z : Value) (size : Nat) (ht : P.underlying t = some (.slice e)) (hu2 : (∃ e2, P.underlying t2 = some (.slice e2)) \/ P.underlying t2 = some .string) (hi : P.info? e = some i) (hz : i.zero = some z)
  (hsize : i.size = size) (hzs : z.cells.size = size) (hsz : 0 < size)
  (v : Value) (n : Nat) (xs : List Value) (g : Option Nat) (hown : BaseIs w size v n xs g)
  (x : Value) (m : Nat) (news : List Value) (hl : news.length = m * size) (hlen : ∀ w : World, (Builtin.lenOf x).run P w = .ok m w) (hnews : ∀ w' : World, Quiet w w' -> (Builtin.firstCells size m x).run P w' = .ok news.toArray w') (h1 : ∀ u ∈ news, u.oneCell' = true)
  (h63 : n + m <= maxLen) (hbytes : (n + m) * i.bytes <= 140737488355328) :
  ∃ v' w', (Builtin.append_ #[t, t2] ty #[v, x]).run P w = .ok v' w' /\ AppRes w e size v n m xs news g v' w' := by
 have hsmall : n + m <= 9223372036854775807 := by simp only [maxLen] at h63; omega
 have hx0 : (xs ++ news).length = (n + m) * size := by rw [List.length_append, hown.1, hl, Nat.add_mul]
 have hqd : Quiet w w.drew := fun b hb => rfl
 have grown : ∀ (old : Nat), old < n + m -> AppRes w e size v n m xs news g (.slice (some ⟨w.heap.size, 0, none⟩) (n + m) (grownCap w (n + m) old e))
   (w.drew.alloc (.cells (xs.toArray ++ news.toArray ++ Builtin.zeroCells z.cells (grownCap w (n + m) old e - (n + m))) e)) := fun old ho => by
  have hge := grownCap_ge w (n + m) old e
  refine .grown hge (grownCap_le_maxLen w (n + m) old e h63) ?_ ?_
  ·simp only [Array.size_append, List.size_toArray, size_zeroCells, hzs, hown.1, hl, <- Nat.add_mul]
   congr 1
   omega
  ·simp only [Array.toList_append]
   rw [<- hx0]
   exact List.take_left
 rcases hown.2 with ⟨rfl, rfl, rfl⟩ | ⟨b, cap, cur, t1, fr, rfl, rfl, hb, hfr, hnc, hcm, hcs, htk⟩
 ·have hxs : xs = [] := List.eq_nil_of_length_eq_zero (by simpa using hown.1)
  subst hxs
  by_cases hm : m = 0
  ·subst hm
   have hnn : news = [] := List.eq_nil_of_length_eq_zero (by simpa using hl)
   subst hnn
   refine ⟨.slice none 0 0, w, ?_, .none rfl rfl⟩
   have h9 := hnews w (Quiet.refl w)
   rcases hu2 with ⟨e2, hd⟩ | hd <;> simp [Builtin.append_, run_underlying ht, run_underlying hd, sizeOf, typeInfo, hi, hlen, hsize, h9]
  ·have hgr := grown 0 (by omega)
   simp only [Nat.zero_add, List.nil_append, Array.empty_append] at hgr hsmall ⊢
   refine ⟨_, _, ?_, hgr⟩
   have h9 := hnews w.drew hqd
   have h63' : ¬ (9223372036854775807 < (m : Int)) := by omega
   have h48' : ¬ (281474976710656 < Builtin.nextslicecap m 0 * i.bytes) := by
    have := growslice_fits (need := m) (old := 0) (bytes := i.bytes) (by omega) (by simpa using hbytes)
    omega
   rcases hu2 with ⟨e2, hd⟩ | hd <;> simp [Builtin.append_, run_underlying ht, run_underlying hd, sizeOf, typeInfo, zeroValue, hi, hz, hlen, hsize, hm, h63', h48', Question.forced, run_firstCells_none, h9, newRow, grownCap]
 ·by_cases hroom : n + m <= cap
  ·have hfit : (n + m) * size <= cur.size := by rw [hcs]; exact Nat.mul_le_mul_right _ hroom
   have hfit2 : n * size + 0 + news.length <= cur.size := by rw [hl, Nat.add_zero, <- Nat.add_mul]; exact hfit
   have hst := run_storeCells_fr P b (n * size) t1 fr news 0 cur w hb hfr hfit2 h1
   rw [Nat.add_zero] at hst
   refine ⟨_, _, ?_, .room rfl rfl hb hroom hfit⟩
   have h9 := hnews w (Quiet.refl w)
   rcases hu2 with ⟨e2, hd⟩ | hd <;> simp [Builtin.append_, run_underlying ht, run_underlying hd, sizeOf, typeInfo, hi, hlen, hsize, hroom, h9, Addr.add_lit, hst]
  ·refine ⟨_, _, ?_, grown cap (by omega)⟩
   have holds : ∀ j u, xs[j]? = some u -> w.drew.cell? ((⟨b, 0, none⟩ : Addr).add j) = some u := fun j u hu => by
    have hadd : (⟨b, 0, none⟩ : Addr).add j = ⟨b, j, none⟩ := by unfold Addr.add; split <;> simp_all
    rw [hadd, cell_of_row w.drew b j cur t1 fr hb]
    rw [<- htk, List.getElem?_take] at hu
    split at hu
    ·simpa using hu
    ·cases hu
   have h9 := hnews w.drew hqd
   have hfo := run_firstCells_some (P := P) w.drew size n ⟨b, 0, none⟩ n cap xs hown.1 holds
   have h63' : ¬ (9223372036854775807 < ((n : Int) + (m : Int))) := by omega
   have h48' : ¬ (281474976710656 < Builtin.nextslicecap (n + m) cap * i.bytes) := by
    have := growslice_fits (need := n + m) (old := cap) (bytes := i.bytes) (by omega) hbytes
    omega
   rcases hu2 with ⟨e2, hd⟩ | hd <;> simp [Builtin.append_, run_underlying ht, run_underlying hd, sizeOf, typeInfo, zeroValue, hi, hz, hlen, hsize, hroom, h63', h48', Question.forced, hfo, h9, newRow, grownCap]
   all_goals (congr 2; apply Array.ext'; simp [List.append_assoc])
end Go.VS
/- VS, thirtieth part: append to an owned list. -/
set_option linter.unusedVariables false
set_option linter.unusedSimpArgs false
namespace Go.VS
variable {c : Ctx} {w0 : World} {S0 : Nat -> Prop} {o0 : Own} {cargs : Array Value} {e : Env} {a : Act} {w : World} {S : Nat -> Prop} {ow : Own}
theorem flatAs_get : ∀ {xs : List AVal}, flatAs xs = true -> ∀ {i : Nat} {x : AVal}, xs[i]? = some x -> flatA x = true
 | [], _, i, x, h => by simp at h
 | y :: ys, hc, 0, x, h => by
  simp only [flatAs, Bool.and_eq_true] at hc
  simp only [List.getElem?_cons_zero, Option.some.injEq] at h
  exact h ▸ hc.1
 | y :: ys, hc, i + 1, x, h => by
  simp only [flatAs, Bool.and_eq_true] at hc
  exact flatAs_get hc.2 (by simpa using h)
theorem Rep.flat {h : Array Obj} {o : Own} {l : Loc} {cs : List Value} {x : AVal} (r : Rep h S o l cs x) : flatA x = true -> RepS h S cs x := by
 induction r with
 | shd a => exact fun _ => a
 | agg a _ ih => exact fun hf => .agg a fun i c x hc hx => ih i c x hc hx (flatAs_get (by simpa [flatA] using hf) hx)
 | fn a _ ih => exact fun hf => .fn a fun i c x hc hx => ih i c x hc hx (flatAs_get (by simpa [flatA] using hf) hx)
 | _ => exact fun hf => by simp [flatA] at hf
def clr (t : Nat) (e : Env) : Env := fun r => if r = t then .undef else killP (fun m => m.r == t) (e r)
theorem Rep.base {h : Array Obj} {l : Loc} {v : Value} {sz : Nat} {xs : List AVal} (w : World) (hw : w.heap = h) (r : Rep h S ow l [v] (.lst true sz xs)) : ∃ g cs, BaseIs w sz v xs.length cs g /\ (∀ b, g = some b -> ow b = some l) ∧
  (∀ (i : Nat) (x : AVal), xs[i]? = some x -> Rep h S ow (l.idx i) ((cs.drop (i * sz)).take sz) x) /\ noRefs xs = true := by
 subst hw
 rcases r.lst_inv with ⟨hv, rfl⟩ | ⟨b, cap, cur, e, fr, hv, hb, ho, hfr, hsz, hlen, hcap, hnr, hm⟩
 ·simp only [List.cons.injEq, and_true] at hv
  exact ⟨none, [], ⟨by simp, .inl ⟨hv, rfl, rfl⟩⟩, fun b h => (by cases h), fun i x h => (by simp at h), rfl⟩
 ·simp only [List.cons.injEq, and_true] at hv
  refine ⟨some b, cur.toList.take (xs.length * sz), ⟨?_, .inr ⟨b, cap, cur, e, fr, rfl, hv, hb, hfr, hlen, hcap, hsz, rfl⟩⟩, fun b' h => (by cases h; exact ho), fun i x hx => ?_, hnr⟩
  ·have hc : cur.toList.length = cap * sz := by rw [Array.length_toList]; exact hsz
   rw [List.length_take, hc]
   exact Nat.min_eq_left (Nat.mul_le_mul_right _ hlen)
  ·have hi : i < xs.length := (List.getElem?_eq_some_iff.1 hx).1
   have : (i + 1) * sz <= xs.length * sz := Nat.mul_le_mul_right _ hi
   rw [Nat.add_mul, Nat.one_mul] at this
   rw [List.drop_take, List.take_take, Nat.min_eq_left (by omega)]
   exact hm i x hx
theorem seg_take {L A : List Value} {N k sz : Nat} (h : L.take N = A) (hk : k + sz <= N) : (L.drop k).take sz = (A.drop k).take sz := by
 rw [<- h, List.drop_take, List.take_take, Nat.min_eq_left (by omega)]
theorem St.appendOwn (s : St c w0 S0 o0 cargs e a w S ow) {t : Nat} (htn : t <= c.nt) {v : Value} {sz : Nat} {xs ys : List AVal} {g : Option Nat} {cs news : List Value} (hbase : BaseIs w sz v xs.length cs g) (hg : ∀ b, g = some b -> ow b = some ⟨t, []⟩)
  (hx : ∀ (i : Nat) (x : AVal), xs[i]? = some x -> Rep w.heap S ow ((⟨t, []⟩ : Loc).idx i) ((cs.drop (i * sz)).take sz) x) (hnx : noRefs xs = true) (hny : noRefs ys = true)
  (hnl : news.length = ys.length * sz) (hy : ∀ (j : Nat) (y : AVal), ys[j]? = some y -> RepS w.heap S ((news.drop (j * sz)).take sz) y) {el : TypeId} {v' : Value} {w' : World} (ha : AppRes w el sz v xs.length ys.length cs news g v' w') :
  ∃ o', St c w0 S0 o0 cargs (clr t e) a w' S o' /\ Rep w'.heap S o' ⟨t, []⟩ [v'] (.lst true sz (xs ++ ys)) /\ newAt ow o' ⟨t, []⟩ := by
 have state : ∀ (w' : World) (o' : Own), Wo c.g c.nt w' S o' -> Fr w0 S0 o0 w' S o' -> (∀ b, S b -> w'.heap[b]? = w.heap[b]?) -> (∀ b m, ow b = some m -> m ≠ ⟨t, []⟩ -> o' b = some m /\ w'.heap[b]? = w.heap[b]?) -> St c w0 S0 o0 cargs (clr t e) a w' S o' := by
  intro w' o' wo fr hS hO
  refine ⟨wo, fr, fun r => ?_, ?_, s.sz, s.df, s.mu⟩
  ·unfold clr
   split
   ·exact .inl (.inl rfl)
   ·rename_i hr
    refine (s.env r).move _ (fun b h => ⟨h, hS b h⟩) (fun b m hb hk => ?_) ⟨r, []⟩ fun b q hb => hO b _ hb fun h => hr (congrArg Loc.r h)
    obtain ⟨h1, h2⟩ := hO b m hb (fun h => by rw [h] at hk; simp at hk)
    exact ⟨h1, .of_eq h2⟩
  ·unfold clr
   split
   ·rfl
   ·rw [s.lim]; rfl
 have elems : ∀ (w' : World) (o' : Own) (L : List Value), (∀ b, S b -> w'.heap[b]? = w.heap[b]?) -> (∀ b m, ow b = some m -> m ≠ ⟨t, []⟩ -> o' b = some m /\ w'.heap[b]? = w.heap[b]?) -> L.take ((xs.length + ys.length) * sz) = cs ++ news →
   ∀ (i : Nat) (x : AVal), (xs ++ ys)[i]? = some x -> Rep w'.heap S o' ((⟨t, []⟩ : Loc).idx i) ((L.drop (i * sz)).take sz) x := by
  intro w' o' L hS hO hL i x hi
  have hil : i < xs.length + ys.length := by
   have := (List.getElem?_eq_some_iff.1 hi).1
   simpa using this
  have hk : i * sz + sz <= (xs.length + ys.length) * sz := by
   have : (i + 1) * sz <= (xs.length + ys.length) * sz := Nat.mul_le_mul_right _ hil
   rwa [Nat.add_mul, Nat.one_mul] at this
  rw [seg_take hL hk]
  by_cases hlt : i < xs.length
  ·rw [List.getElem?_append_left hlt] at hi
   have hk2 : i * sz + sz <= xs.length * sz := by
    have : (i + 1) * sz <= xs.length * sz := Nat.mul_le_mul_right _ hlt
    rwa [Nat.add_mul, Nat.one_mul] at this
   have hcl := hbase.1
   rw [List.drop_append_of_le_length (by omega), List.take_append_of_le_length (by rw [List.length_drop]; omega)]
   have := (hx i x hi).move (S' := S) (h' := w'.heap) (o' := o') (fun _ => true) (fun b hb => ⟨hb, hS b hb⟩) (fun b m hb hk => by cases hk) ((⟨t, []⟩ : Loc).idx i) fun b q hb => hO b _ hb fun h => by
    have := congrArg (fun m => m.p.length) h
    simp [Loc.ext, Loc.idx] at this
   rwa [killP_noRef _ _ (noRefs_get hnx hi)] at this
  ·rw [List.getElem?_append_right (by omega)] at hi
   have hcl := hbase.1
   have hii : i * sz = cs.length + (i - xs.length) * sz := by
    rw [hcl, <- Nat.add_mul]
    congr 1
    omega
   rw [hii, List.drop_length_add_append]
   exact .shd ((hy _ x hi).mono fun b hb => ⟨hb, hS b hb⟩)
 cases ha with
 | none h1 h2 =>
  have hys : ys = [] := List.eq_nil_of_length_eq_zero h2
  have hxs : xs = [] := by
   rcases hbase.2 with ⟨_, h, _⟩ | ⟨b, cap, cur, t1, fr, _, h, _⟩
   ·exact List.eq_nil_of_length_eq_zero h
   ·rw [h1] at h; cases h
  subst hys hxs
  exact ⟨ow, state w ow s.wo s.fr (fun _ _ => rfl) fun b m hb _ => ⟨hb, rfl⟩, .nil, newAt.refl _ _⟩
 | @room b cap cur t1 fr h1 h2 hb hroom hfit =>
  rcases hbase.2 with ⟨h, _, _⟩ | ⟨b', cap', cur', t1', fr', h3, h4, h5, hfr, hnc, hcm, hcs, htk⟩
  ·rw [h2] at h; cases h
  ·rw [h1] at h3
   cases h3
   rw [h2] at h4
   cases h4
   rw [hb] at h5
   cases h5
   have hob := hg b h1
   obtain ⟨g1, g2, g3⟩ := setRow_one w b cur t1 fr hb (spliced cur (xs.length * sz) news)
   have hfit2 : xs.length * sz + news.length <= cur.size := by rw [hnl, <- Nat.add_mul]; exact hfit
   have hlen := spliced_length cur (xs.length * sz) news hfit2
   have hS : ∀ b', S b' -> (w.setRow b (spliced cur (xs.length * sz) news).toArray).heap[b']? = w.heap[b']? := fun b' h => g2 b' fun he => by
    have := (s.wo.sh b' h).1
    rw [he, hob] at this
    cases this
   have hO : ∀ b' m, ow b' = some m -> m ≠ ⟨t, []⟩ -> ow b' = some m /\ (w.setRow b (spliced cur (xs.length * sz) news).toArray).heap[b']? = w.heap[b']? := fun b' m hm hne => ⟨hm, g2 b' fun he => hne (by
    rw [he, hob] at hm
    exact (Option.some.inj hm).symm)⟩
   have hL : (spliced cur (xs.length * sz) news).take ((xs.length + ys.length) * sz) = cs ++ news := by
    unfold spliced
    rw [htk]
    have : (cs ++ news).length = (xs.length + ys.length) * sz := by rw [List.length_append, hbase.1, hnl, Nat.add_mul]
    rw [<- this]
    exact List.take_left
   refine ⟨ow, state _ ow ⟨s.wo.rt, s.wo.inj, fun b' m h => by rw [g3]; exact s.wo.lt b' m h, fun b' h => by rw [g3]; exact s.wo.sh b' h,
     c.g.stay w _ (fun b' hb' => g2 b' (fun h => by have := (s.wo.lt b _ hob).2; omega)) s.wo.gl, by rw [g3]; exact s.wo.ngs⟩
    ⟨s.fr.os, s.fr.tape, s.fr.output, by rw [g3]; exact s.fr.size, fun b' h1 h2 => ⟨(s.fr.old b' h1 h2).1, ?_⟩, s.fr.grow, s.fr.only, fun b' h1 => (s.fr.shp b' h1).trans ?_⟩ hS hO, ?_, newAt.refl _ _⟩
   ·rw [g2 b' (fun h => by have := (s.fr.old b' h1 h2).1; rw [h, hob] at this; cases this)]
    exact (s.fr.old b' h1 h2).2
   ·by_cases h : b' = b
    ·subst h
     refine ⟨fun cur' t' f' hh => ?_, fun es k hh => by rw [hb] at hh; cases hh⟩
     rw [hb] at hh
     cases hh
     exact ⟨_, g1, by rw [List.size_toArray, hlen]⟩
    ·exact .of_eq (g2 b' h)
   ·have := Rep.lst (S := S) (o := ow) (l := ⟨t, []⟩) (xs := xs ++ ys) (sz := sz) (cap := cap) g1 hob (by rw [List.size_toArray, hlen]; exact hfr) (by rw [List.size_toArray, hlen]; exact hcs) (by simpa using hroom) hcm
     (by rw [noRefs_all, List.all_append, <- noRefs_all, <- noRefs_all, hnx, hny]; rfl) (fun i x hi => elems _ ow _ hS hO hL i x hi)
    rwa [List.length_append] at this
 | @grown cap cur hroom hcm hcs hL =>
  have hm : OneMore w (w.drew.alloc (.cells cur el)) := ⟨rfl, rfl, rfl, by simp, fun b h => heap_alloc_old w.drew _ b h⟩
  have hnew : (w.drew.alloc (.cells cur el)).heap[w.heap.size]? = some (.cells cur el (0, 0)) := heap_alloc_new w.drew _
  let o2 : Own := fun b => if b = w.heap.size then some ⟨t, []⟩ else if ow b = some ⟨t, []⟩ then none else ow b
  have ho2 : ∀ b m, o2 b = some m -> (b = w.heap.size /\ m = ⟨t, []⟩) \/ (ow b = some m /\ m ≠ ⟨t, []⟩) := fun b m h => by
   simp only [o2] at h
   split at h
   ·rename_i hb
    cases h
    exact .inl ⟨hb, rfl⟩
   ·split at h
    ·cases h
    ·rename_i hne
     exact .inr ⟨h, fun he => hne (by rw [h, he])⟩
  have hO : ∀ b m, ow b = some m -> m ≠ ⟨t, []⟩ -> o2 b = some m /\ (w.drew.alloc (.cells cur el)).heap[b]? = w.heap[b]? := fun b m hb hne => by
   have hlt := (s.wo.lt b m hb).1
   refine ⟨?_, hm.old b hlt⟩
   simp only [o2]
   rw [if_neg (by omega), if_neg (by rw [hb]; intro h; exact hne (Option.some.inj h)), hb]
  have hno : ∀ b, b < w.heap.size -> ow b = none -> o2 b = none := fun b hlt hb => by
   simp only [o2]
   rw [if_neg (by omega), if_neg (by rw [hb]; simp), hb]
  have hS : ∀ b, S b -> (w.drew.alloc (.cells cur el)).heap[b]? = w.heap[b]? := fun b hb => hm.old b (s.wo.sh b hb).2
  refine ⟨o2, state _ o2 ⟨fun b m h => ?_, fun b b' m h h' => ?_, fun b m h => ?_, fun b hb => ?_, c.g.stay _ _ (fun b hb => hm.old b (Nat.lt_of_lt_of_le hb s.wo.ngs)) s.wo.gl, by rw [hm.size]; have := s.wo.ngs; omega⟩
   ⟨hm.os.trans s.fr.os, hm.tape.trans s.fr.tape, hm.output.trans s.fr.output, by rw [hm.size]; have := s.fr.size; omega, fun b h1 h2 => ?_, s.fr.grow, s.fr.only, fun b hb => (s.fr.shp b hb).trans (.of_eq (hm.old b (Nat.lt_of_lt_of_le hb s.fr.size)))⟩ hS hO, ?_, fun b m h => ?_⟩
  ·rcases ho2 b m h with ⟨_, rfl⟩ | ⟨h1, _⟩
   ·exact htn
   ·exact s.wo.rt b m h1
  ·rcases ho2 b m h with ⟨h1, h2⟩ | ⟨h1, h2⟩ <;> rcases ho2 b' m h' with ⟨h3, h4⟩ | ⟨h3, h4⟩
   ·omega
   ·exact absurd h2 h4
   ·exact absurd h4 h2
   ·exact s.wo.inj _ _ _ h1 h3
  ·rw [hm.size]
   rcases ho2 b m h with ⟨h1, _⟩ | ⟨h1, _⟩
   ·exact ⟨by omega, by rw [h1]; exact s.wo.ngs⟩
   ·have := s.wo.lt b m h1
    exact ⟨by omega, this.2⟩
  ·have := s.wo.sh b hb
   exact ⟨hno b this.2 this.1, by rw [hm.size]; omega⟩
  ·have hlt := Nat.lt_of_lt_of_le h1 s.fr.size
   exact ⟨hno b hlt (s.fr.old b h1 h2).1, (hm.old b hlt).trans (s.fr.old b h1 h2).2⟩
  ·have := Rep.lst (S := S) (o := o2) (l := ⟨t, []⟩) (xs := xs ++ ys) (sz := sz) (cap := cap) hnew (by simp [o2]) (frOk_zero _) hcs (by simpa using hroom) hcm
    (by rw [noRefs_all, List.all_append, <- noRefs_all, <- noRefs_all, hnx, hny]; rfl) (fun i x hi => elems _ o2 _ hS hO hL i x hi)
   rwa [List.length_append] at this
  ·rcases ho2 b m h with ⟨_, rfl⟩ | ⟨h1, _⟩
   ·exact .inr ⟨[], rfl⟩
   ·exact .inl h1
end Go.VS
/- VS: append of elements that own what they hold: their trees are moved. -/
set_option linter.unusedVariables false
set_option linter.unusedSimpArgs false
namespace Go.VS
variable {c : Ctx} {w0 : World} {S0 : Nat -> Prop} {o0 : Own} {cargs : Array Value} {e : Env} {a : Act} {w : World} {S : Nat -> Prop} {ow : Own}
mutual
theorem killP_two (d1 d2 : Loc -> Bool) : ∀ x, killP d1 (killP d2 x) = killP (fun m => d2 m || d1 m) x
 | .agg xs => by simp only [killP, killPs_two d1 d2 xs]
 | .tup xs => by simp only [killP, killPs_two d1 d2 xs]
 | .ptr true x => by simp only [killP, killP_two d1 d2 x]
 | .ptr false _ => rfl
 | .fn _ caps => by simp only [killP, killPs_two d1 d2 caps]
 | .href l _ _ _ => by simp only [killP]; by_cases h : d2 l = true <;> simp [h, killP]
 | .adr l _ _ _ => by simp only [killP]; by_cases h : d2 l = true <;> simp [h, killP]
 | .mref l => by simp only [killP]; by_cases h : d2 l = true <;> simp [h, killP]
 | .undef => rfl
 | .lit _ => rfl
 | .ifc => rfl
 | .lst _ _ _ => rfl
 | .mp _ _ => rfl
theorem killPs_two (d1 d2 : Loc -> Bool) : ∀ xs, killPs d1 (killPs d2 xs) = killPs (fun m => d2 m || d1 m) xs
 | [] => rfl
 | x :: xs => by simp only [killPs, killP_two d1 d2 x, killPs_two d1 d2 xs]
end
def apO (t t2 n : Nat) (keep : Bool) (new : Option Nat) (o : Own) : Own := fun b => if new = some b then some ⟨t, []⟩ else match o b with
 | none => none
 | some m => if m.r = t2 then (match m.p with
   | .idx j :: q => some ⟨t, .idx (n + j) :: q⟩
   | _ => none)
  else if m.r = t then (match m.p with
   | [] => if keep = true then some m else none
   | .idx i :: q => if i < n then some m else none
   | _ => none)
  else some m
section
variable {t t2 n : Nat} {keep : Bool} {new : Option Nat} {o : Own} {b : Nat}
theorem apO_new (h : new = some b) : apO t t2 n keep new o b = some ⟨t, []⟩ := if_pos h
theorem apO_src (h : new ≠ some b) {j : Nat} {q : List Step} (hb : o b = some ⟨t2, .idx j :: q⟩) : apO t t2 n keep new o b = some ⟨t, .idx (n + j) :: q⟩ := by
 unfold apO
 rw [if_neg h, hb]
 simp
theorem apO_base (h : new ≠ some b) (ht : t ≠ t2) (hk : keep = true) (hb : o b = some ⟨t, []⟩) : apO t t2 n keep new o b = some ⟨t, []⟩ := by
 unfold apO
 rw [if_neg h, hb]
 simp [ht, hk]
theorem apO_old (h : new ≠ some b) (ht : t ≠ t2) {i : Nat} (hi : i < n) {q : List Step} (hb : o b = some ⟨t, .idx i :: q⟩) : apO t t2 n keep new o b = some ⟨t, .idx i :: q⟩ := by
 unfold apO
 rw [if_neg h, hb]
 simp [ht, hi]
theorem apO_oth (h : new ≠ some b) {m : Loc} (h1 : m.r ≠ t) (h2 : m.r ≠ t2) (hb : o b = some m) : apO t t2 n keep new o b = some m := by
 unfold apO
 rw [if_neg h, hb]
 simp [h1, h2]
theorem apO_none (h : new ≠ some b) (hb : o b = none) : apO t t2 n keep new o b = none := by
 unfold apO
 rw [if_neg h, hb]
theorem apO_inv {m : Loc} (h : apO t t2 n keep new o b = some m) : (new = some b /\ m = ⟨t, []⟩) \/ (new ≠ some b /\ ((∃ j q, o b = some ⟨t2, .idx j :: q⟩ /\ m = ⟨t, .idx (n + j) :: q⟩) ∨
  (keep = true /\ t ≠ t2 /\ o b = some ⟨t, []⟩ /\ m = ⟨t, []⟩) \/ (∃ i q, i < n /\ o b = some ⟨t, .idx i :: q⟩ /\ m = ⟨t, .idx i :: q⟩) \/ (m.r ≠ t /\ m.r ≠ t2 /\ o b = some m))) := by
 unfold apO at h
 split at h
 ·rename_i hn
  exact .inl ⟨hn, (Option.some.inj h).symm⟩
 ·rename_i hn
  refine .inr ⟨hn, ?_⟩
  split at h
  ·cases h
  ·rename_i m' hm
   obtain ⟨r, p⟩ := m'
   simp only at h
   split at h
   ·rename_i hr
    subst hr
    split at h
    ·rename_i _ j q
     exact .inl ⟨j, q, hm, (Option.some.inj h).symm⟩
    ·cases h
   ·rename_i hr2
    split at h
    ·rename_i hr
     subst hr
     split at h
     ·split at h
      ·rename_i hk
       exact .inr (.inl ⟨hk, hr2, hm, (Option.some.inj h).symm⟩)
      ·cases h
     ·rename_i _ i q
      split at h
      ·rename_i hi
       exact .inr (.inr (.inl ⟨i, q, hi, hm, (Option.some.inj h).symm⟩))
      ·cases h
     ·cases h
    ·rename_i hr
     cases h
     exact .inr (.inr (.inr ⟨hr, hr2, hm⟩))
end
theorem St.appendMv (s : St c w0 S0 o0 cargs e a w S ow) {t t2 : Nat} (htn : t <= c.nt) (hne : t ≠ t2) {v : Value} {sz : Nat} {xs ys : List AVal} {g : Option Nat} {cs news : List Value} (hbase : BaseIs w sz v xs.length cs g) (hg : ∀ b, g = some b -> ow b = some ⟨t, []⟩)
  (hx : ∀ (i : Nat) (x : AVal), xs[i]? = some x -> Rep w.heap S ow ((⟨t, []⟩ : Loc).idx i) ((cs.drop (i * sz)).take sz) x) (hnx : noRefs xs = true) (hny : noRefs ys = true)
  (hnl : news.length = ys.length * sz) (hy : ∀ (j : Nat) (y : AVal), ys[j]? = some y -> Rep w.heap S ow ((⟨t2, []⟩ : Loc).idx j) ((news.drop (j * sz)).take sz) y) {el : TypeId} {v' : Value} {w' : World} (ha : AppRes w el sz v xs.length ys.length cs news g v' w') :
  ∃ o', St c w0 S0 o0 cargs (clr t (clr t2 e)) a w' S o' /\ Rep w'.heap S o' ⟨t, []⟩ [v'] (.lst true sz (xs ++ ys)) /\ newAt ow o' ⟨t, []⟩ := by
 have two : ∀ q, q ≠ t -> q ≠ t2 -> clr t (clr t2 e) q = killP (fun m => m.r == t2 || m.r == t) (e q) := fun q h1 h2 => by
  simp only [clr, if_neg h1, if_neg h2, killP_two]
 have state : ∀ (w' : World) (keep : Bool) (new : Option Nat), w'.os = w.os -> w'.tape = w.tape -> w'.output = w.output -> w.heap.size <= w'.heap.size -> (∀ b, new = some b -> w.heap.size <= b /\ b < w'.heap.size /\ keep = false) →
   (∀ b, b < w.heap.size -> ow b ≠ some ⟨t, []⟩ -> w'.heap[b]? = w.heap[b]?) -> (∀ b, b < w.heap.size -> sameShape w.heap w'.heap b) -> St c w0 S0 o0 cargs (clr t (clr t2 e)) a w' S (apO t t2 xs.length keep new ow) := by
  intro w' keep new hos hta hou hsz hnew hold hshp
  have hnn : ∀ b, b < w.heap.size -> new ≠ some b := fun b hb h => by have := (hnew b h).1; omega
  have hSk : ∀ b, S b -> w'.heap[b]? = w.heap[b]? := fun b hb => hold b (s.wo.sh b hb).2 (by rw [(s.wo.sh b hb).1]; simp)
  have lt : ∀ b m, ow b = some m -> b < w.heap.size := fun b m h => (s.wo.lt b m h).1
  refine ⟨⟨fun b m h => ?_, fun b b' m h h' => ?_, fun b m h => ?_, fun b h => ⟨apO_none (hnn b (s.wo.sh b h).2) (s.wo.sh b h).1, Nat.lt_of_lt_of_le (s.wo.sh b h).2 hsz⟩, c.g.stay w _ (fun b hb => hold b (Nat.lt_of_lt_of_le hb s.wo.ngs) fun h => by have := (s.wo.lt b _ h).2; omega) s.wo.gl, Nat.le_trans s.wo.ngs hsz⟩,
   ⟨hos.trans s.fr.os, hta.trans s.fr.tape, hou.trans s.fr.output, Nat.le_trans s.fr.size hsz, fun b h1 h2 => ⟨apO_none (hnn b (Nat.lt_of_lt_of_le h1 s.fr.size)) (s.fr.old b h1 h2).1, (hold b (Nat.lt_of_lt_of_le h1 s.fr.size) (by rw [(s.fr.old b h1 h2).1]; simp)).trans (s.fr.old b h1 h2).2⟩, s.fr.grow, s.fr.only, fun b h => (s.fr.shp b h).trans (hshp b (Nat.lt_of_lt_of_le h s.fr.size))⟩, fun q => ?_, ?_, s.sz, s.df, s.mu⟩
  ·rcases apO_inv h with ⟨_, rfl⟩ | ⟨_, ⟨j, q, h1, rfl⟩ | ⟨_, _, h1, rfl⟩ | ⟨i, q, _, h1, rfl⟩ | ⟨_, _, h1⟩⟩
   ·exact htn
   ·exact htn
   ·exact htn
   ·exact htn
   ·exact s.wo.rt _ _ h1
  ·rcases apO_inv h with ⟨n1, e1⟩ | ⟨n1, ⟨j, q, h1, e1⟩ | ⟨_, _, h1, e1⟩ | ⟨i, q, i1, h1, e1⟩ | ⟨r1, r2, h1⟩⟩ <;> rcases apO_inv h' with ⟨n1', e1'⟩ | ⟨n1', ⟨j', q', h1', e1'⟩ | ⟨k1', _, h1', e1'⟩ | ⟨i', q', i1', h1', e1'⟩ | ⟨r1', r2', h1'⟩⟩
   ·rw [n1] at n1'; exact Option.some.inj n1'
   ·rw [e1] at e1'; simp at e1'
   ·have := (hnew b n1).2.2; rw [this] at k1'; cases k1'
   ·rw [e1] at e1'; simp at e1'
   ·rw [e1] at r1'; exact absurd rfl r1'
   ·rw [e1] at e1'; simp at e1'
   ·rw [e1] at e1'
    simp only [Loc.mk.injEq, List.cons.injEq, Step.idx.injEq, true_and] at e1'
    obtain ⟨h2, rfl⟩ := e1'
    have : j = j' := by omega
    subst this
    exact s.wo.inj _ _ _ h1 h1'
   ·rw [e1] at e1'; simp at e1'
   ·rw [e1] at e1'
    simp only [Loc.mk.injEq, List.cons.injEq, Step.idx.injEq, true_and] at e1'
    omega
   ·rw [e1] at r1'; exact absurd rfl r1'
   ·rename_i k1 _
    have := (hnew b' n1').2.2; rw [this] at k1; cases k1
   ·rw [e1] at e1'; simp at e1'
   ·exact s.wo.inj _ _ _ h1 h1'
   ·rw [e1] at e1'; simp at e1'
   ·rw [e1] at r1'; exact absurd rfl r1'
   ·rw [e1] at e1'; simp at e1'
   ·rw [e1] at e1'
    simp only [Loc.mk.injEq, List.cons.injEq, Step.idx.injEq, true_and] at e1'
    omega
   ·rw [e1] at e1'; simp at e1'
   ·rw [e1] at e1'
    simp only [Loc.mk.injEq, List.cons.injEq, Step.idx.injEq, true_and] at e1'
    obtain ⟨rfl, rfl⟩ := e1'
    exact s.wo.inj _ _ _ h1 h1'
   ·rw [e1] at r1'; exact absurd rfl r1'
   ·rw [e1'] at r1; exact absurd rfl r1
   ·rw [e1'] at r1; exact absurd rfl r1
   ·rw [e1'] at r1; exact absurd rfl r1
   ·rw [e1'] at r1; exact absurd rfl r1
   ·exact s.wo.inj _ _ _ h1 h1'
  ·rcases apO_inv h with ⟨n1, _⟩ | ⟨_, ⟨j, q, h1, _⟩ | ⟨_, _, h1, _⟩ | ⟨i, q, _, h1, _⟩ | ⟨_, _, h1⟩⟩
   ·have := (hnew b n1); have := s.wo.ngs; omega
   all_goals exact ⟨Nat.lt_of_lt_of_le (s.wo.lt _ _ h1).1 hsz, (s.wo.lt _ _ h1).2⟩
  ·by_cases h1 : q = t
   ·subst h1
    simp only [clr, if_true]
    exact .inl (.inl rfl)
   ·by_cases h2 : q = t2
    ·subst h2
     simp only [clr, if_neg h1, if_true, killP]
     exact .inl (.inl rfl)
    ·rw [two q h1 h2]
     refine (s.env q).move _ (fun b h => ⟨h, hSk b h⟩) (fun b m hb hk => ?_) ⟨q, []⟩ fun b p hb => ?_
     ·simp only [Bool.or_eq_false_iff, beq_eq_false_iff_ne] at hk
      exact ⟨apO_oth (hnn b (lt b m hb)) hk.2 hk.1 hb, .of_eq (hold b (lt b m hb) (by rw [hb]; intro h; exact hk.2 (by rw [Option.some.inj h])))⟩
     ·have hr : ((⟨q, []⟩ : Loc).ext p).r = q := rfl
      exact ⟨apO_oth (hnn b (lt b _ hb)) (by rw [hr]; exact h1) (by rw [hr]; exact h2) hb, hold b (lt b _ hb) (by rw [hb]; intro h; exact h1 (by rw [<- hr, Option.some.inj h]))⟩
  ·unfold clr
   split
   ·rfl
   ·split
    ·rfl
    ·rw [s.lim]; rfl
 have elems : ∀ (w' : World) (keep : Bool) (new : Option Nat) (L : List Value), (∀ b, new = some b -> w.heap.size <= b) -> (∀ b, b < w.heap.size -> ow b ≠ some ⟨t, []⟩ -> w'.heap[b]? = w.heap[b]?) -> L.take ((xs.length + ys.length) * sz) = cs ++ news →
   ∀ (i : Nat) (x : AVal), (xs ++ ys)[i]? = some x -> Rep w'.heap S (apO t t2 xs.length keep new ow) ((⟨t, []⟩ : Loc).idx i) ((L.drop (i * sz)).take sz) x := by
  intro w' keep new L hnew hold hL i x hi
  have hnn : ∀ b, b < w.heap.size -> new ≠ some b := fun b hb h => by have := hnew b h; omega
  have lt : ∀ b m, ow b = some m -> b < w.heap.size := fun b m h => (s.wo.lt b m h).1
  have hSk : ∀ b, S b -> S b /\ w'.heap[b]? = w.heap[b]? := fun b hb => ⟨hb, hold b (s.wo.sh b hb).2 (by rw [(s.wo.sh b hb).1]; simp)⟩
  have hil : i < xs.length + ys.length := by
   have := (List.getElem?_eq_some_iff.1 hi).1
   simpa using this
  have hk : i * sz + sz <= (xs.length + ys.length) * sz := by
   have : (i + 1) * sz <= (xs.length + ys.length) * sz := Nat.mul_le_mul_right _ hil
   rwa [Nat.add_mul, Nat.one_mul] at this
  rw [seg_take hL hk]
  by_cases hlt : i < xs.length
  ·rw [List.getElem?_append_left hlt] at hi
   have hk2 : i * sz + sz <= xs.length * sz := by
    have : (i + 1) * sz <= xs.length * sz := Nat.mul_le_mul_right _ hlt
    rwa [Nat.add_mul, Nat.one_mul] at this
   have hcl := hbase.1
   rw [List.drop_append_of_le_length (by omega), List.take_append_of_le_length (by rw [List.length_drop]; omega)]
   have := (hx i x hi).move (S' := S) (h' := w'.heap) (o' := apO t t2 xs.length keep new ow) (fun _ => true) hSk (fun b m hb hk => by cases hk) ((⟨t, []⟩ : Loc).idx i) fun b q hb => by
    have hb2 : ow b = some ⟨t, .idx i :: q⟩ := by simpa [Loc.idx, Loc.ext] using hb
    refine ⟨?_, hold b (lt b _ hb) (by rw [hb2]; simp)⟩
    have := apO_old (n := xs.length) (keep := keep) (hnn b (lt b _ hb)) hne hlt hb2
    simpa [Loc.idx, Loc.ext] using this
   rwa [killP_noRef _ _ (noRefs_get hnx hi)] at this
  ·rw [List.getElem?_append_right (by omega)] at hi
   have hcl := hbase.1
   have hii : i * sz = cs.length + (i - xs.length) * sz := by
    rw [hcl, <- Nat.add_mul]
    congr 1
    omega
   rw [hii, List.drop_length_add_append]
   have := (hy _ x hi).move (S' := S) (h' := w'.heap) (o' := apO t t2 xs.length keep new ow) (fun _ => true) hSk (fun b m hb hk => by cases hk) ((⟨t, []⟩ : Loc).idx i) fun b q hb => by
    have hb2 : ow b = some ⟨t2, .idx (i - xs.length) :: q⟩ := by simpa [Loc.idx, Loc.ext] using hb
    refine ⟨?_, hold b (lt b _ hb) (by rw [hb2]; simp only [ne_eq, Option.some.injEq, Loc.mk.injEq, reduceCtorEq, and_false, not_false_eq_true])⟩
    have := apO_src (t := t) (n := xs.length) (keep := keep) (hnn b (lt b _ hb)) hb2
    rw [show xs.length + (i - xs.length) = i by omega] at this
    simpa [Loc.idx, Loc.ext] using this
   rwa [killP_noRef _ _ (noRefs_get hny hi)] at this
 have hnew1 : ∀ (keep : Bool) (new : Option Nat), newAt ow (apO t t2 xs.length keep new ow) ⟨t, []⟩ := fun keep new b m h => by
  rcases apO_inv h with ⟨_, rfl⟩ | ⟨_, ⟨j, q, h1, rfl⟩ | ⟨_, _, h1, rfl⟩ | ⟨i, q, _, h1, rfl⟩ | ⟨_, _, h1⟩⟩
  ·exact .inr ⟨[], rfl⟩
  ·exact .inr ⟨_, rfl⟩
  ·exact .inl h1
  ·exact .inl h1
  ·exact .inl h1
 have hnr : noRefs (xs ++ ys) = true := by rw [noRefs_all, List.all_append, <- noRefs_all, <- noRefs_all, hnx, hny]; rfl
 cases ha with
 | none h1 h2 =>
  have hys : ys = [] := List.eq_nil_of_length_eq_zero h2
  have hxs : xs = [] := by
   rcases hbase.2 with ⟨_, h, _⟩ | ⟨b, cap, cur, t1, fr, _, h, _⟩
   ·exact List.eq_nil_of_length_eq_zero h
   ·rw [h1] at h; cases h
  refine ⟨_, state w true none rfl rfl rfl (Nat.le_refl _) (fun b h => by cases h) (fun _ _ _ => rfl) (fun _ _ => .of_eq rfl), ?_, hnew1 _ _⟩
  subst hys hxs
  exact .nil
 | @room b cap cur t1 fr h1 h2 hb hroom hfit =>
  rcases hbase.2 with ⟨h, _, _⟩ | ⟨b', cap', cur', t1', fr', h3, h4, h5, hfr, hnc, hcm, hcs, htk⟩
  ·rw [h2] at h; cases h
  ·rw [h1] at h3
   cases h3
   rw [h2] at h4
   cases h4
   rw [hb] at h5
   cases h5
   have hob := hg b h1
   obtain ⟨g1, g2, g3⟩ := setRow_one w b cur t1 fr hb (spliced cur (xs.length * sz) news)
   have hfit2 : xs.length * sz + news.length <= cur.size := by rw [hnl, <- Nat.add_mul]; exact hfit
   have hlen := spliced_length cur (xs.length * sz) news hfit2
   have hL : (spliced cur (xs.length * sz) news).take ((xs.length + ys.length) * sz) = cs ++ news := by
    unfold spliced
    rw [htk]
    have : (cs ++ news).length = (xs.length + ys.length) * sz := by rw [List.length_append, hbase.1, hnl, Nat.add_mul]
    rw [<- this]
    exact List.take_left
   have hold : ∀ b', b' < w.heap.size -> ow b' ≠ some ⟨t, []⟩ -> (w.setRow b (spliced cur (xs.length * sz) news).toArray).heap[b']? = w.heap[b']? := fun b' _ h => g2 b' fun he => h (by rw [he]; exact hob)
   refine ⟨_, state _ true none rfl rfl rfl (by rw [g3]; exact Nat.le_refl _) (fun b h => by cases h) hold (fun b' _ => ?_), ?_, hnew1 _ _⟩
   ·by_cases h : b' = b
    ·subst h
     refine ⟨fun cur2 t2 fr2 h => ?_, fun es c2 h => ?_⟩
     ·rw [hb] at h
      cases h
      exact ⟨_, g1, by simpa using hlen⟩
     ·rw [hb] at h
      cases h
    ·exact .of_eq (g2 b' h)
   ·have := Rep.lst (S := S) (o := apO t t2 xs.length true none ow) (l := ⟨t, []⟩) (xs := xs ++ ys) (sz := sz) (cap := cap) g1 (apO_base (by simp) hne rfl hob) (by rw [List.size_toArray, hlen]; exact hfr) (by rw [List.size_toArray, hlen]; exact hcs) (by simpa using hroom) hcm hnr
     (fun i x hi => by rw [List.toList_toArray]; exact elems _ true none _ (fun b h => by cases h) hold hL i x hi)
    rwa [List.length_append] at this
 | @grown cap cur hroom hcm hcs hL =>
  have hm : OneMore w (w.drew.alloc (.cells cur el)) := ⟨rfl, rfl, rfl, by simp, fun b h => heap_alloc_old w.drew _ b h⟩
  have hnew : (w.drew.alloc (.cells cur el)).heap[w.heap.size]? = some (.cells cur el (0, 0)) := heap_alloc_new w.drew _
  have hold : ∀ b', b' < w.heap.size -> ow b' ≠ some ⟨t, []⟩ -> (w.drew.alloc (.cells cur el)).heap[b']? = w.heap[b']? := fun b' h _ => hm.old b' h
  refine ⟨_, state _ false (some w.heap.size) rfl rfl rfl (by rw [hm.size]; omega) (fun b h => by cases h; exact ⟨Nat.le_refl _, by rw [hm.size]; omega, rfl⟩) hold (fun b h => .of_eq (hm.old b h)), ?_, hnew1 _ _⟩
  have := Rep.lst (S := S) (o := apO t t2 xs.length false (some w.heap.size) ow) (l := ⟨t, []⟩) (xs := xs ++ ys) (sz := sz) (cap := cap) hnew (apO_new rfl) (frOk_zero _) hcs (by simpa using hroom) hcm hnr
   (fun i x hi => elems _ false (some w.heap.size) _ (fun b h => by cases h; exact Nat.le_refl _) hold hL i x hi)
  rwa [List.length_append] at this
open Go.MapKept
theorem run_mapUpdate {P : Program} {w : World} {ty kt el : TypeId} {d : TypeDesc} {k v : Value} (hu : P.underlying ty = some (.map kt el)) (hd : P.underlying kt = some d) (hk : IsKey d k) {r clock : Nat} {ms : Array MapEntry} (hb : w.heap[r]? = some (.map ms clock)) (hks : ∀ m ∈ ms.toList, IsKey d m.key) :
  ∃ ms' clock', (Instr.mapUpdate ty (.map (some r)) k v).run P w = .ok () { w with heap := w.heap.setIfInBounds r (.map ms' clock') } /\ ms'.toList.map prM = mPut k v (ms.toList.map prM) := by
 rcases findNow_mp hk v ms.toList 0 hks with ⟨f1, _, f3⟩ | ⟨j, ee, f1, f2, f3, _, f5⟩
 ·refine ⟨ms.push { key := k, val := v, born := clock }, clock + 1, ?_, ?_⟩
  ·simp [Instr.mapUpdate, run_underlying hu, Go.MapKept.run_getObj_map hb, run_checkKey hd hk, run_findKey hd f1, Go.MapKept.run_setObj_map _ hb, Result.andThen]
  ·rw [f3]
   simp [prM]
 ·have hkj : ((ms[j]?).map (·.key)).getD k = k := by
   have : ms[j]? = some ee := by simpa using f2
   rw [this]
   simp [f3]
  refine ⟨ms.modify j fun e => { e with key := k, val := v }, clock, ?_, ?_⟩
  ·simp only [Nat.zero_add] at f1
   simp [Instr.mapUpdate, run_underlying hu, Go.MapKept.run_getObj_map hb, run_checkKey hd hk, run_findKey hd f1, Go.MapKept.run_setObj_map _ hb, hkj, run_keyThatStays hk, Result.andThen]
  ·rw [f5]
   simp
theorem ok_mapUpdate (s : St c w0 S0 o0 cargs e a w S ow) {o : Oper} (hc : constsOk c o.op = true) {ty : TypeId} {x k v : Operand} (ho : o.op = .mapUpdate ty x k v) {K : Env -> Prop} (h : mapUpK e K (mapT c.g.P ty) (opV e x) (opV e k) (opV e v)) :
  ∃ w1 e1, (execOp a.eval o).run c.g.P w = .ok .skip w1 /\ K e1 /\ St c w0 S0 o0 cargs e1 a w1 S ow := by
 have rx := opV_sound s x (constsOk_mem hc (by simp [ho, Op.operands])) ⟨c.nt, []⟩
 have rk := opV_sound s k (constsOk_mem hc (by simp [ho, Op.operands])) ⟨c.nt, []⟩
 have rv := opV_sound s v (constsOk_mem hc (by simp [ho, Op.operands])) ⟨c.nt, []⟩
 unfold mapUpK at h
 split at h
 ·rename_i d el r kv vv hmt hx hk hv
  obtain ⟨kt, hu, hd⟩ := mapT_ok hmt
  rw [hx] at rx
  rw [hk] at rk
  rw [hv] at rv
  obtain ⟨ek, _⟩ := rk.lit
  obtain ⟨ev, _⟩ := rv.lit
  unfold mapUp at h
  split at h
  ·rename_i es her
   obtain ⟨h1, h2, h3⟩ := h
   obtain ⟨b, ms, clock, hva, hb, hob⟩ := (rx.one (by simp) rfl (by simp)).mref_inv
   simp only [List.cons.injEq, and_true] at hva
   have r0 := (her ▸ s.env r).one (by simp) rfl (by simp)
   obtain ⟨b2, ms2, k2, hv2, hb2, hob2, he⟩ := r0.mp_inv
   have : b2 = b := s.wo.inj _ _ _ hob2 hob
   subst this
   rw [hb] at hb2
   cases hb2
   subst he
   obtain ⟨ms', clock', hrun, hput⟩ := run_mapUpdate (v := vv) hu hd (keyB_is h1) hb (fun m hm => keyB_is (h2 (prM m) (List.mem_map.2 ⟨m, hm, rfl⟩)))
   obtain ⟨g1, g2⟩ := heap_set (o' := Obj.map ms' clock') hb
   have g3 : (w.heap.setIfInBounds b2 (.map ms' clock')).size = w.heap.size := by simp
   have hne : ∀ b, ow b ≠ some ⟨r, []⟩ -> (w.heap.setIfInBounds b2 (.map ms' clock'))[b]? = w.heap[b]? := fun b h => g2 b fun he => h (by rw [he]; exact hob)
   have hshp : ∀ b, sameShape w.heap (w.heap.setIfInBounds b2 (.map ms' clock')) b := fun b => by
    by_cases h : b = b2
    ·subst h
     refine ⟨fun cur t f hh => ?_, fun es k hh => ⟨_, _, g1⟩⟩
     rw [hb] at hh
     cases hh
    ·exact .of_eq (g2 b h)
   have fin : St c w0 S0 o0 cargs (setS r (.mp true (mPut kv vv (ms.toList.map fun m => (m.key, m.val)))) e) a { w with heap := w.heap.setIfInBounds b2 (.map ms' clock') } S ow := by
    refine ⟨?_, ?_, fun q => ?_, ?_, s.sz, s.df, s.mu⟩
    ·exact ⟨s.wo.rt, s.wo.inj, fun b m h => by rw [g3]; exact s.wo.lt b m h, fun b h => by rw [g3]; exact s.wo.sh b h,
      c.g.stay w _ (fun b hb' => g2 b (fun h => by have := (s.wo.lt b2 _ hob).2; omega)) s.wo.gl, by rw [g3]; exact s.wo.ngs⟩
    ·exact ⟨s.fr.os, s.fr.tape, s.fr.output, by rw [g3]; exact s.fr.size, fun b h1 h2 => ⟨(s.fr.old b h1 h2).1, (hne b (by rw [(s.fr.old b h1 h2).1]; simp)).trans (s.fr.old b h1 h2).2⟩, s.fr.grow, s.fr.only, fun b h => (s.fr.shp b h).trans (hshp b)⟩
    ·unfold setS
     split
     ·rename_i hq
      subst hq
      have : Rep (w.heap.setIfInBounds b2 (.map ms' clock')) S ow ⟨q, []⟩ [tv cargs a q] (.mp true (mPut kv vv (ms.toList.map fun m => (m.key, m.val)))) := by
       have h9 := Rep.mp (S := S) (o := ow) (l := ⟨q, []⟩) g1 hob
       have h10 : (ms'.toList.map fun m => (m.key, m.val)) = mPut kv vv (ms.toList.map fun m => (m.key, m.val)) := hput
       rw [h10] at h9
       simp only [List.cons.injEq, and_true] at hv2
       rw [hv2]
       exact h9
      have hvv : isAggV (tv cargs a q) = false := by
       simp only [List.cons.injEq, and_true] at hv2
       rw [hv2]
       rfl
      exact .mk hvv rfl this
     ·rename_i hq
      have := (s.env q).move (fun _ => false) (S' := S) (h' := w.heap.setIfInBounds b2 (.map ms' clock')) (o' := ow) (fun b h => ⟨h, hne b (by rw [(s.wo.sh b h).1]; simp)⟩) (fun b m hb _ => ⟨hb, hshp b⟩) ⟨q, []⟩ fun b p hb => ⟨hb, hne b (by
       rw [hb]
       intro h
       exact hq (congrArg Loc.r (Option.some.inj h)))⟩
      rwa [killP_false] at this
    ·unfold setS
     split
     ·rename_i hq
      rw [<- hq, s.lim] at her
      cases her
     ·exact s.lim
   refine ⟨{ w with heap := w.heap.setIfInBounds b2 (.map ms' clock') }, _, ?_, h3, fin⟩
   ·simp [execOp, ho, hva, ek, ev, hrun]
  ·exact h.elim
 ·exact h.elim
end Go.VS
/- VS, thirty-first part: append. -/
set_option linter.unusedVariables false
set_option linter.unusedSimpArgs false
namespace Go.VS
variable {c : Ctx} {w0 : World} {S0 : Nat -> Prop} {o0 : Own} {cargs : Array Value} {e : Env} {a : Act} {w : World} {S : Nat -> Prop} {ow : Own}
def appBase (sz : Nat) (e : Env) : AVal -> Option (List AVal × Env)
 | .lit (.slice none 0 0) => some ([], e)
 | .href l sz' lo n => match getE e l with
  | some (.lst true sz2 xs) => if sz' = sz /\ sz2 = sz /\ lo = 0 /\ n = xs.length then some (xs, takeE l e) else none
  | _ => none
 | _ => none
theorem St.appBase (s : St c w0 S0 o0 cargs e a w S ow) {t : Nat} (ht : free ow t) (htn : t <= c.nt) {sz : Nat} {x : AVal} {xs : List AVal} {e1 : Env} (h : VS.appBase sz e x = some (xs, e1)) {v : Value} {l0 : Loc} (r : RepV w.heap S ow l0 v x) :
  ∃ o1, St c w0 S0 o0 cargs e1 a w S o1 /\ Rep w.heap S o1 ⟨t, []⟩ [v] (.lst true sz xs) /\ newAt ow o1 ⟨t, []⟩ := by
 unfold VS.appBase at h
 split at h
 ·cases h
  obtain ⟨rfl, _⟩ := r.lit
  exact ⟨ow, s, .nil, newAt.refl _ _⟩
 ·rename_i l sz' lo n
  split at h
  ·rename_i sz2 xs' hg
   split at h
   ·rename_i hc
    obtain ⟨rfl, rfl, rfl, rfl⟩ := hc
    cases h
    obtain ⟨cn, rn⟩ := s.nodeRep hg rfl
    have r1 := rn.of_href s.wo.inj (r.one (by simp) rfl (by simp)) rfl (Nat.le_refl _)
    rw [List.take_length] at r1
    obtain ⟨s1, hr⟩ := s.take hg rfl (t := ⟨t, []⟩) (ht.clear []) htn
    exact ⟨_, s1, hr _ _ r1, movO_newAt⟩
   ·cases h
  ·cases h
 ·cases h
def SrcIs (P : Program) (w : World) (S : Nat -> Prop) (sz : Nat) (v : Value) (ys : List AVal) (news : List Value) : Prop :=
 (∀ w' : World, (Builtin.lenOf v).run P w' = .ok ys.length w') /\ news.length = ys.length * sz /\ (∀ w' : World, Quiet w w' -> (Builtin.firstCells sz ys.length v).run P w' = .ok news.toArray w') ∧
  (∀ (j : Nat) (y : AVal), ys[j]? = some y -> RepS w.heap S ((news.drop (j * sz)).take sz) y) /\ ∀ u ∈ news, u.oneCell' = true
theorem St.srcList (s : St c w0 S0 o0 cargs e a w S ow) {P : Program} {y : AVal} {sz : Nat} {ys : List AVal} (hy : VS.elems e y = some (sz, ys)) (hf : flatAs ys = true) {l0 : Loc} {v : Value} (r : Rep w.heap S ow l0 [v] y) (hsz : 0 < sz) :
  ∃ news, SrcIs P w S sz v ys news := by
 obtain ⟨ad, cap, rfl, hmx, hcase⟩ := s.elems hy r
 by_cases h0 : 0 < ys.length
 ·obtain ⟨b, off, cur, t1, fr, rfl, hb, _, hfit, hm⟩ := hcase h0
  have hlen : ((cur.toList.drop off).take (ys.length * sz)).length = ys.length * sz := by simp; omega
  have seg : ∀ j, j < ys.length -> ((((cur.toList.drop off).take (ys.length * sz)).drop (j * sz)).take sz) = (cur.toList.drop (off + j * sz)).take sz := fun j hj => by
   have : (j + 1) * sz <= ys.length * sz := Nat.mul_le_mul_right _ hj
   rw [Nat.add_mul, Nat.one_mul] at this
   rw [List.drop_take, List.take_take, Nat.min_eq_left (by omega), List.drop_drop]
  have rep : ∀ (j : Nat) (y : AVal), ys[j]? = some y -> RepS w.heap S ((((cur.toList.drop off).take (ys.length * sz)).drop (j * sz)).take sz) y := fun j y hj => by
   rw [seg j (List.getElem?_eq_some_iff.1 hj).1]
   obtain ⟨l', h1⟩ := hm j y hj
   exact h1.flat (flatAs_get hf hj)
  refine ⟨(cur.toList.drop off).take (ys.length * sz), fun w' => rfl, hlen, fun w' hq => ?_, rep, fun u hu => ?_⟩
  ·have hb' : w'.heap[b]? = some (.cells cur t1 fr) := (hq b (Array.getElem?_eq_some_iff.1 hb).1).trans hb
   refine run_firstCells_some w' sz ys.length ⟨b, off, none⟩ ys.length cap _ hlen fun j u hu => ?_
   have hadd : (⟨b, off, none⟩ : Addr).add j = ⟨b, off + j, none⟩ := by unfold Addr.add; split <;> simp_all
   rw [hadd, cell_of_row w' b (off + j) cur t1 fr hb']
   rw [List.getElem?_take] at hu
   split at hu
   ·rw [List.getElem?_drop] at hu
    simpa using hu
   ·cases hu
  ·obtain ⟨k, hk⟩ := List.mem_iff_getElem?.1 hu
   have hkl : k < ys.length * sz := by rw [<- hlen]; exact (List.getElem?_eq_some_iff.1 hk).1
   have hj : k / sz < ys.length := (Nat.div_lt_iff_lt_mul hsz).2 hkl
   have h9 := rep (k / sz) _ (List.getElem?_eq_getElem hj)
   refine h9.ones u ?_
   refine List.mem_iff_getElem?.2 ⟨k % sz, ?_⟩
   have hdm : k / sz * sz + k % sz = k := Nat.div_add_mod' k sz
   rw [List.getElem?_take, if_pos (Nat.mod_lt _ hsz), List.getElem?_drop, hdm]
   exact hk
 ·have hys : ys = [] := List.eq_nil_of_length_eq_zero (by omega)
  subst hys
  refine ⟨[], fun w' => rfl, by simp, fun w' _ => ?_, fun j y h => by simp at h, fun u hu => by simp at hu⟩
  cases ad with
  | none => simp [Builtin.firstCells]
  | some ad => simp [Builtin.firstCells, loadCells, loadCellsFrom]
theorem srcString {P : Program} {str : ByteArray} : SrcIs P w S 1 (.string str) (bytesA str) (str.data.toList.map fun b => Value.int .u8 b.toNat) := by
 have hl : (bytesA str).length = str.size := by simp [bytesA]
 refine ⟨fun w' => by rw [hl]; rfl, by simp [bytesA], fun w' _ => ?_, fun j y hj => ?_, fun u hu => ?_⟩
 ·rw [hl]
  simp only [Builtin.firstCells, Sem.run_pure, ByteArray.extract_zero_size]
  congr 1
  apply Array.ext'
  simp
 ·simp only [bytesA, List.getElem?_map, Option.map_eq_some_iff] at hj
  obtain ⟨b, hb, rfl⟩ := hj
  have hlt := (List.getElem?_eq_some_iff.1 hb).1
  have hb2 := (List.getElem?_eq_some_iff.1 hb).2
  rw [Nat.mul_one, List.drop_eq_getElem_cons (by simpa using hlt)]
  simp only [List.take_succ_cons, List.take_zero, List.getElem_map, hb2]
  refine .lit ?_
  have := b.toNat_lt
  simp only [litOk, IntKind.min, IntKind.max, IntKind.bits, IntKind.signed]
  simp
  omega
 ·obtain ⟨b, _, rfl⟩ := List.mem_map.1 hu
  rfl
theorem one_notAgg {v : Value} (h : v.oneCell' = true) : isAggV v = false := by
 cases v <;> simp_all [Value.oneCell', isAggV]
theorem map_id_of {xs : List AVal} (h : ∀ (i : Nat) (x : AVal), xs[i]? = some x -> VS.toShd x = x) : toShds xs = xs := by
 rw [toShds_map]
 conv => rhs; rw [<- List.map_id xs]
 exact List.map_congr_left fun x hx => by
  obtain ⟨i, hi⟩ := List.mem_iff_getElem?.1 hx
  exact h i x hi
theorem RepS.toShd_eq {h : Array Obj} {cs : List Value} {x : AVal} (r : RepS h S cs x) : VS.toShd x = x := by
 induction r with
 | undef _ => simp only [VS.toShd]
 | lit _ => simp only [VS.toShd]
 | ifc => simp only [VS.toShd]
 | @agg css xs hl _ ih =>
  simp only [VS.toShd]
  rw [map_id_of fun i x hi => ih i (css[i]'(by rw [hl]; exact (List.getElem?_eq_some_iff.1 hi).1)) x (List.getElem?_eq_getElem _) hi]
 | emp _ => simp only [VS.toShd, toShds]
 | lst _ _ _ _ _ _ ih =>
  simp only [VS.toShd]
  rw [map_id_of ih]
 | ptr _ _ _ _ ih =>
  simp only [VS.toShd]
  rw [ih]
 | mp _ _ => simp only [VS.toShd]
 | mpNil => simp only [VS.toShd]
 | @fn f cvs caps hl _ ih =>
  simp only [VS.toShd]
  rw [map_id_of fun i x hi => ih i (cvs[i]'(by rw [hl]; exact (List.getElem?_eq_some_iff.1 hi).1)) x (Array.getElem?_eq_getElem _) hi]
theorem Rep.frzList {h h' : Array Obj} {S' : Nat -> Prop} {l : Loc} {v : Value} {sz : Nat} {xs : List AVal} (r : Rep h S ow l [v] (.lst true sz xs)) (hf : flatAs xs = true) (hS : ∀ b, S b -> S' b /\ h'[b]? = h[b]?)
  (hb : ∀ b cur t1 fr, h[b]? = some (.cells cur t1 fr) -> ow b = some l -> S' b /\ ∃ cur', h'[b]? = some (.cells cur' t1 fr) /\ cur'.size = cur.size /\ cur'.toList.take (xs.length * sz) = cur.toList.take (xs.length * sz)) :
  RepS h' S' [v] (.lst false sz xs) := by
 rcases r.lst_inv with ⟨hv, rfl⟩ | ⟨b, cap, cur, t1, fr, hv, hcur, ho, hfr, hsz, hlen, hcap, hnr, hm⟩
 ·rw [hv]
  exact .emp (Nat.zero_le _)
 ·rw [hv]
  obtain ⟨h1, cur', h2, h3, h4⟩ := hb b cur t1 fr hcur ho
  have hfit : xs.length * sz <= cur.size := by rw [hsz]; exact Nat.mul_le_mul_right _ hlen
  refine .lst h2 h1 (by omega) hlen hcap fun i x hi => ?_
  have hk : i * sz + sz <= xs.length * sz := by
   have : (i + 1) * sz <= xs.length * sz := Nat.mul_le_mul_right _ (List.getElem?_eq_some_iff.1 hi).1
   rwa [Nat.add_mul, Nat.one_mul] at this
  rw [Nat.zero_add, seg_take h4 hk, <- seg_take (L := cur.toList) rfl hk]
  exact ((hm i x hi).flat (flatAs_get hf hi)).mono hS
theorem rowRepS {h : Array Obj} {b cap n sz : Nat} {cur : Array Value} {t1 : TypeId} {fr : Nat × Nat} {zs : List AVal} {cs : List Value} (hb : h[b]? = some (.cells cur t1 fr)) (hS : S b) (hn : n = zs.length) (hfit : zs.length * sz <= cur.size) (hcap : n <= cap) (hmx : cap <= maxLen)
  (hL : cur.toList.take (zs.length * sz) = cs) (hz : ∀ (i : Nat) (x : AVal), zs[i]? = some x -> RepS h S ((cs.drop (i * sz)).take sz) x) : RepS h S [.slice (some ⟨b, 0, none⟩) n cap] (.lst false sz zs) := by
 subst hn
 refine .lst hb hS (by omega) hcap hmx fun i x hi => ?_
 have hk : i * sz + sz <= zs.length * sz := by
  have : (i + 1) * sz <= zs.length * sz := Nat.mul_le_mul_right _ (List.getElem?_eq_some_iff.1 hi).1
  rwa [Nat.add_mul, Nat.one_mul] at this
 rw [Nat.zero_add, seg_take hL hk]
 exact hz i x hi
theorem catRepS {h : Array Obj} {sz : Nat} {xs ys : List AVal} {cs news : List Value} (h1 : cs.length = xs.length * sz) (h2 : news.length = ys.length * sz) (hx : ∀ (i : Nat) (x : AVal), xs[i]? = some x -> RepS h S ((cs.drop (i * sz)).take sz) x) (hy : ∀ (i : Nat) (x : AVal), ys[i]? = some x -> RepS h S ((news.drop (i * sz)).take sz) x) :
  ∀ (i : Nat) (x : AVal), (xs ++ ys)[i]? = some x -> RepS h S (((cs ++ news).drop (i * sz)).take sz) x := fun i x hi => by
 by_cases hlt : i < xs.length
 ·rw [List.getElem?_append_left hlt] at hi
  have hk2 : i * sz + sz <= xs.length * sz := by
   have : (i + 1) * sz <= xs.length * sz := Nat.mul_le_mul_right _ hlt
   rwa [Nat.add_mul, Nat.one_mul] at this
  rw [List.drop_append_of_le_length (by omega), List.take_append_of_le_length (by rw [List.length_drop]; omega)]
  exact hx i x hi
 ·rw [List.getElem?_append_right (by omega)] at hi
  have hii : i * sz = cs.length + (i - xs.length) * sz := by
   rw [h1, <- Nat.add_mul]
   congr 1
   omega
  rw [hii, List.drop_length_add_append]
  exact hy _ x hi
theorem St.appendFrz (s : St c w0 S0 o0 cargs e a w S ow) {t r : Nat} {v : Value} {sz : Nat} {xs ys : List AVal} (her : e r = .lst true sz xs) (hf : flatAs xs = true) (rv : Rep w.heap S ow ⟨r, []⟩ [v] (.lst true sz xs))
  {g : Option Nat} {cs news : List Value} (hbase : BaseIs w sz v xs.length cs g) (hg : ∀ b, g = some b -> ow b = some ⟨r, []⟩) (hcs : ∀ (i : Nat) (x : AVal), xs[i]? = some x -> RepS w.heap S ((cs.drop (i * sz)).take sz) x)
  (hnl : news.length = ys.length * sz) (hy : ∀ (j : Nat) (y : AVal), ys[j]? = some y -> RepS w.heap S ((news.drop (j * sz)).take sz) y) {el : TypeId} {v' : Value} {w' : World} (ha : AppRes w el sz v xs.length ys.length cs news g v' w') :
  ∃ S1 o', St c w0 S0 o0 cargs (frzE [r] e) a w' S1 o' /\ RepS w'.heap S1 [v'] (.lst false sz (xs ++ ys)) /\ ∀ b m, o' b = some m -> ow b = some m := by
 have hrr : ∀ m : Loc, [r].contains m.r = true ↔ m.r = r := fun m => by simp
 have state : ∀ (w' : World) (S1 : Nat -> Prop), (∀ b, S1 b ↔ frzS [r] S ow b \/ (w.heap.size <= b /\ b < w'.heap.size)) -> w'.os = w.os -> w'.tape = w.tape -> w'.output = w.output -> w.heap.size <= w'.heap.size →
   (∀ b, b < w.heap.size -> ow b ≠ some ⟨r, []⟩ -> w'.heap[b]? = w.heap[b]?) →
   (∀ b cur t1 fr, w.heap[b]? = some (.cells cur t1 fr) -> ow b = some ⟨r, []⟩ -> ∃ cur', w'.heap[b]? = some (.cells cur' t1 fr) /\ cur'.size = cur.size /\ cur'.toList.take (xs.length * sz) = cur.toList.take (xs.length * sz)) -> (∀ b, b < w.heap.size -> sameShape w.heap w'.heap b) →
   St c w0 S0 o0 cargs (frzE [r] e) a w' S1 (frzO [r] ow) := by
  intro w' S1 hS1 hos hta hou hsz hold hrow hshp
  have hSk : ∀ b, S b -> w'.heap[b]? = w.heap[b]? := fun b hb => hold b (s.wo.sh b hb).2 (by rw [(s.wo.sh b hb).1]; simp)
  refine ⟨⟨fun b m h => s.wo.rt _ _ (frzO_eq h).1, fun b b' m h h' => s.wo.inj _ _ _ (frzO_eq h).1 (frzO_eq h').1, fun b m h => ⟨Nat.lt_of_lt_of_le (s.wo.lt _ _ (frzO_eq h).1).1 hsz, (s.wo.lt _ _ (frzO_eq h).1).2⟩, fun b h => ?_, c.g.stay w _ (fun b hb => hold b (Nat.lt_of_lt_of_le hb s.wo.ngs) fun h => by have := (s.wo.lt b _ h).2; omega) s.wo.gl, Nat.le_trans s.wo.ngs hsz⟩,
   ⟨hos.trans s.fr.os, hta.trans s.fr.tape, hou.trans s.fr.output, Nat.le_trans s.fr.size hsz, fun b h1 h2 => ⟨by simp [frzO, (s.fr.old b h1 h2).1], (hold b (Nat.lt_of_lt_of_le h1 s.fr.size) (by rw [(s.fr.old b h1 h2).1]; simp)).trans (s.fr.old b h1 h2).2⟩, fun b h => (hS1 b).2 (.inl (.inl (s.fr.grow b h))), fun b h => ?_, fun b h => (s.fr.shp b h).trans (hshp b (Nat.lt_of_lt_of_le h s.fr.size))⟩, fun q => ?_, ?_, s.sz, s.df, s.mu⟩
  ·rcases (hS1 b).1 h with (h | ⟨m, h, hc⟩) | ⟨h1, h2⟩
   ·exact ⟨by simp [frzO, (s.wo.sh b h).1], Nat.lt_of_lt_of_le (s.wo.sh b h).2 hsz⟩
   ·exact ⟨by unfold frzO; rw [h]; simp only [hc, if_true], Nat.lt_of_lt_of_le (s.wo.lt b m h).1 hsz⟩
   ·refine ⟨?_, h2⟩
    cases hq : frzO [r] ow b with
    | none => rfl
    | some m => have := (s.wo.lt b m (frzO_eq hq).1).1; omega
  ·rcases (hS1 b).1 h with (h | ⟨m, h, hc⟩) | ⟨h1, h2⟩
   ·exact s.fr.only b h
   ·by_cases hb : b < w0.heap.size
    ·refine .inr (.inr fun h0 => ?_)
     have := (s.fr.old b hb h0).1
     rw [h] at this
     cases this
    ·exact .inr (.inl (by omega))
   ·have := s.fr.size
    exact .inr (.inl (by omega))
  ·unfold frzE
   split
   ·rename_i hr
    have hq : q = r := by simpa using hr
    subst hq
    rw [her]
    simp only [VS.toShd]
    rw [map_id_of fun i x hi => (hcs i x hi).toShd_eq]
    have r0 := (her ▸ s.env q).one (by simp) rfl (by simp)
    have r1 := r0.frzList hf (h' := w'.heap) (S' := S1) (fun b hb => ⟨(hS1 b).2 (.inl (.inl hb)), hSk b hb⟩) fun b cur t1 fr h1 h2 => ⟨(hS1 b).2 (.inl (.inr ⟨_, h2, by simp⟩)), hrow b cur t1 fr h1 h2⟩
    exact .mk (one_notAgg (r0.ones _ (by simp))) rfl (.shd r1)
   ·rename_i hr
    exact (s.env q).move _ (fun b h => ⟨(hS1 b).2 (.inl (.inl h)), hSk b h⟩) (fun b m hb hm => ⟨frzO_of hb hm, .of_eq (hold b (s.wo.lt b m hb).1 (by rw [hb]; rintro h; cases h; simp at hm))⟩) ⟨q, []⟩ fun b p hq => by
     have hne : ((⟨q, []⟩ : Loc).ext p).r ≠ r := fun h => hr (by simpa [Loc.ext] using h)
     exact ⟨frzO_of hq (by simpa using hne), hold b (s.wo.lt b _ hq).1 (by rw [hq]; intro h; exact hne (by rw [Option.some.inj h]))⟩
  ·unfold frzE
   rw [s.lim]
   split <;> rfl
 have keep : ∀ {w' : World} {S1 : Nat -> Prop}, (∀ b, S b -> S1 b /\ w'.heap[b]? = w.heap[b]?) -> ∀ (i : Nat) (x : AVal), (xs ++ ys)[i]? = some x -> RepS w'.heap S1 (((cs ++ news).drop (i * sz)).take sz) x := fun hS =>
  catRepS hbase.1 hnl (fun i x hi => (hcs i x hi).mono hS) (fun i x hi => (hy i x hi).mono hS)
 have hlen : (cs ++ news).length = (xs ++ ys).length * sz := by rw [List.length_append, List.length_append, hbase.1, hnl, Nat.add_mul]
 cases ha with
 | none h1 h2 =>
  have hys : ys = [] := List.eq_nil_of_length_eq_zero h2
  have hxs : xs = [] := by
   rcases hbase.2 with ⟨_, h, _⟩ | ⟨b, cap, cur, t1, fr, _, h, _⟩
   ·exact List.eq_nil_of_length_eq_zero h
   ·rw [h1] at h; cases h
  refine ⟨_, _, state w (frzS [r] S ow) (fun b => ⟨.inl, fun h => h.elim id fun h => by omega⟩) rfl rfl rfl (Nat.le_refl _) (fun _ _ _ => rfl) (fun b cur t1 fr h _ => ⟨cur, h, rfl, rfl⟩) (fun _ _ => .of_eq rfl), ?_, fun b m h => (frzO_eq h).1⟩
  subst hys hxs
  exact .emp (Nat.zero_le _)
 | @room b cap cur t1 fr h1 h2 hb hroom hfit =>
  rcases hbase.2 with ⟨h, _, _⟩ | ⟨b', cap', cur', t1', fr', h3, h4, h5, hfr, hnc, hcm, hcsz, htk⟩
  ·rw [h2] at h; cases h
  ·rw [h1] at h3
   cases h3
   rw [h2] at h4
   cases h4
   rw [hb] at h5
   cases h5
   have hob := hg b h1
   obtain ⟨g1, g2, g3⟩ := setRow_one w b cur t1 fr hb (spliced cur (xs.length * sz) news)
   have hfit2 : xs.length * sz + news.length <= cur.size := by rw [hnl, <- Nat.add_mul]; exact hfit
   have hsl := spliced_length cur (xs.length * sz) news hfit2
   have hL : (spliced cur (xs.length * sz) news).take ((xs ++ ys).length * sz) = cs ++ news := by
    unfold spliced
    rw [htk, <- hlen]
    exact List.take_left
   have hL1 : (spliced cur (xs.length * sz) news).take (xs.length * sz) = cur.toList.take (xs.length * sz) := by
    unfold spliced
    rw [htk, <- hbase.1]
    rw [List.append_assoc]
    exact List.take_left
   have hne : ∀ b', ow b' ≠ some ⟨r, []⟩ -> (w.setRow b (spliced cur (xs.length * sz) news).toArray).heap[b']? = w.heap[b']? := fun b' h => g2 b' fun he => h (by rw [he]; exact hob)
   have hshp : ∀ b', sameShape w.heap (w.setRow b (spliced cur (xs.length * sz) news).toArray).heap b' := fun b' => by
    by_cases h : b' = b
    ·subst h
     refine ⟨fun cur2 t2 fr2 h => ?_, fun es c2 h => ?_⟩
     ·rw [hb] at h
      cases h
      exact ⟨_, g1, by simpa using hsl⟩
     ·rw [hb] at h
      cases h
    ·exact .of_eq (g2 b' h)
   have hst := state (w.setRow b (spliced cur (xs.length * sz) news).toArray) (frzS [r] S ow) (fun b' => ⟨.inl, fun h => h.elim id fun h => by rw [g3] at h; omega⟩) rfl rfl rfl (by rw [g3]; exact Nat.le_refl _) (fun b' _ h => hne b' h) (fun b' cur2 t2 fr2 h h' => ?_) (fun b' _ => hshp b')
   ·refine ⟨_, _, hst, ?_, fun b m h => (frzO_eq h).1⟩
    have hq := rowRepS (S := frzS [r] S ow) (cap := cap) (n := xs.length + ys.length) (zs := xs ++ ys) g1 (.inr ⟨_, hob, by simp⟩) (by simp) (by rw [List.size_toArray, hsl, List.length_append]; exact hfit) hroom hcm (by rw [List.toList_toArray]; exact hL) (keep fun b' h => ⟨.inl h, hne b' (by rw [(s.wo.sh b' h).1]; simp)⟩)
    exact hq
   ·have : b' = b := s.wo.inj _ _ _ h' hob
    subst this
    rw [hb] at h
    cases h
    exact ⟨_, g1, by simpa using hsl, by rw [List.toList_toArray]; exact hL1⟩
 | @grown cap cur hroom hcm hcsz hL =>
  have hm : OneMore w (w.drew.alloc (.cells cur el)) := ⟨rfl, rfl, rfl, by simp, fun b h => heap_alloc_old w.drew _ b h⟩
  have hnew : (w.drew.alloc (.cells cur el)).heap[w.heap.size]? = some (.cells cur el (0, 0)) := heap_alloc_new w.drew _
  have hst := state (w.drew.alloc (.cells cur el)) (fun b => frzS [r] S ow b \/ b = w.heap.size) (fun b => by rw [hm.size]; exact or_congr .rfl (by omega)) rfl rfl rfl (by rw [hm.size]; omega) (fun b h _ => hm.old b h) (fun b cur2 t2 fr2 h h' => ⟨cur2, (hm.old b (s.wo.lt b _ h').1).trans h, rfl, rfl⟩) (fun b h => .of_eq (hm.old b h))
  refine ⟨_, _, hst, ?_, fun b m h => (frzO_eq h).1⟩
  have hq := rowRepS (S := fun b => frzS [r] S ow b \/ b = w.heap.size) (cap := cap) (n := xs.length + ys.length) (zs := xs ++ ys) hnew (.inr rfl) (by simp) (by rw [hcsz, List.length_append]; exact Nat.mul_le_mul_right _ hroom) hroom hcm (by rw [List.length_append]; exact hL) (keep fun b' h => ⟨.inl (.inl h), hm.old b' (s.wo.sh b' h).2⟩)
  exact hq
def frzApp (P : Program) (el ty2 : TypeId) (e : Env) (r sz lo n : Nat) (K : AVal -> Env -> Prop) : AVal -> Option (Nat × List AVal) -> Prop
 | .lst true sz2 xs, some (sz3, ys) => sz = P.cellsOf el /\ sz2 = P.cellsOf el /\ sz3 = P.cellsOf el /\ lo = 0 /\ n = xs.length /\ flatAs xs = true /\ 0 < P.cellsOf el /\ (zeroOf P el).isSome = true /\ (elemT P ty2).isSome = true /\ flatAs ys = true /\ noRefs ys = true /\ fits P el (xs.length + ys.length) ∧
  K (.lst false (P.cellsOf el) (xs ++ ys)) (frzE [r] e)
 | _, _ => False
def frzAppB (P : Program) (el ty2 : TypeId) (e : Env) (K : AVal -> Env -> Prop) (els : Option (Nat × List AVal)) : AVal -> Prop
 | .href ⟨r, []⟩ sz lo n => frzApp P el ty2 e r sz lo n K (e r) els
 | _ => False
def frzAppT (P : Program) (ty2 : TypeId) (e : Env) (K : AVal -> Env -> Prop) (els : Option (Nat × List AVal)) (x : AVal) : Option TypeId -> Prop
 | some el => frzAppB P el ty2 e K els x
 | none => False
def Ctx.fz (c : Ctx) : Option Nat -> Bool
 | some d => c.mvs.contains (1000 + d)
 | none => false
def appP : Bool -> Prop -> Prop -> Prop
 | true, A, _ => A
 | false, _, B => B
def slotOf : Operand -> Option Nat
 | .tmp t => some t
 | _ => none
def appMvA (P : Program) (el ty2 : TypeId) (t t2 : Nat) (xs : List AVal) (e1 : Env) (K : AVal -> Env -> Prop) : AVal -> Prop
 | .lst true sz ys => (t2 == t) = false /\ sz = P.cellsOf el /\ (elemT P ty2).isSome = true /\ noRefs ys = true /\ fits P el (xs.length + ys.length) /\ K (.lst true (P.cellsOf el) (xs ++ ys)) (clr t (clr t2 e1))
 | _ => False
def appMv (P : Program) (el ty2 : TypeId) (t : Nat) (xs : List AVal) (e1 : Env) (K : AVal -> Env -> Prop) : Option Nat -> Prop
 | some t2 => appMvA P el ty2 t t2 xs e1 K (e1 t2)
 | none => False
theorem BaseIs.src {P : Program} {sz : Nat} {v : Value} {n : Nat} {cs : List Value} {g : Option Nat} (h : BaseIs w sz v n cs g) :
  (∀ w' : World, (Builtin.lenOf v).run P w' = .ok n w') /\ (∀ w' : World, Quiet w w' -> (Builtin.firstCells sz n v).run P w' = .ok cs.toArray w') := by
 obtain ⟨hl, ⟨rfl, rfl, rfl⟩ | ⟨b, cap, cur, t1, fr, rfl, rfl, hb, hfr, hnc, hcm, hcs, htk⟩⟩ := h
 ·have : cs = [] := List.eq_nil_of_length_eq_zero (by omega)
  subst this
  exact ⟨fun w' => rfl, fun w' _ => by simp [Builtin.firstCells]⟩
 ·refine ⟨fun w' => rfl, fun w' hq => ?_⟩
  have hb' : w'.heap[b]? = some (.cells cur t1 fr) := (hq b (Array.getElem?_eq_some_iff.1 hb).1).trans hb
  refine run_firstCells_some w' sz n ⟨b, 0, none⟩ n cap _ hl fun j u hu => ?_
  have hadd : (⟨b, 0, none⟩ : Addr).add j = ⟨b, j, none⟩ := by unfold Addr.add; split <;> simp_all
  rw [hadd, cell_of_row w' b j cur t1 fr hb']
  rw [<- htk, List.getElem?_take] at hu
  split at hu
  ·simpa using hu
  ·cases hu
def appendN (c : Ctx) (t : Nat) (args : Array Operand) (argTypes : Array TypeId) (e : Env) (K : AVal -> Env -> Prop) : Prop :=
 match args[0]?, args[1]?, argTypes[0]?, argTypes[1]? with
 | some xo, some yo, some ty, some ty2 => match elemT c.g.P ty with
  | some el => match appBase (c.g.P.cellsOf el) e (opV e xo) with
   | some (xs, e1) => 0 < c.g.P.cellsOf el /\ (zeroOf c.g.P el).isSome = true /\ match opV e yo with
    | .lit (.string s) => c.g.P.underlying ty2 = some .string /\ c.g.P.cellsOf el = 1 /\ fits c.g.P el (xs.length + (bytesA s).length) /\ K (.lst true (c.g.P.cellsOf el) (xs ++ bytesA s)) (clr t e1)
    | y => match elems e y with
     | some (sz, ys) => appP (flatAs ys) (sz = c.g.P.cellsOf el /\ (elemT c.g.P ty2).isSome = true /\ noRefs ys = true /\ fits c.g.P el (xs.length + ys.length) /\ K (.lst true (c.g.P.cellsOf el) (xs ++ ys)) (clr t e1)) (appMv c.g.P el ty2 t xs e1 K (slotOf yo))
     | none => False
   | none => False
  | none => False
 | _, _, _, _ => False
def appendK (c : Ctx) (fz : Bool) (t : Nat) (args : Array Operand) (argTypes : Array TypeId) (e : Env) (K : AVal -> Env -> Prop) : Prop :=
 match fz with
 | false => appendN c t args argTypes e K
 | true => match args[0]?, args[1]?, argTypes[0]?, argTypes[1]? with
  | some xo, some yo, some ty, some ty2 => frzAppT c.g.P ty2 e K (elems e (opV e yo)) (opV e xo) (elemT c.g.P ty)
  | _, _, _, _ => False
theorem append_at {argTypes : Array TypeId} {ty : TypeId} {args : Array Value} {t t2 : TypeId} {v x : Value} (h1 : argTypes[0]? = some t) (h2 : argTypes[1]? = some t2) (h3 : args[0]? = some v) (h4 : args[1]? = some x) :
  Builtin.append_ argTypes ty args = Builtin.append_ #[t, t2] ty #[v, x] := by
 unfold Builtin.append_
 simp [h1, h2, h3, h4]
theorem St.append (s : St c w0 S0 o0 cargs e a w S ow) {t : Nat} (ht : free ow t) (htn : t <= c.nt) {ty ty2 oty el : TypeId} (hel : elemT c.g.P ty = some el) {v x : Value} {bx : AVal} {xs ys : List AVal} {e1 : Env} (hb : VS.appBase (c.g.P.cellsOf el) e bx = some (xs, e1)) {l0 : Loc}
  (rb : RepV w.heap S ow l0 v bx) (hp : 0 < c.g.P.cellsOf el) (hz : (zeroOf c.g.P el).isSome = true) (hu2 : (∃ e2, c.g.P.underlying ty2 = some (.slice e2)) \/ c.g.P.underlying ty2 = some .string) {news : List Value}
  (hsrc : SrcIs c.g.P w S (c.g.P.cellsOf el) x ys news) (hny : noRefs ys = true) (hfit : fits c.g.P el (xs.length + ys.length)) {K : AVal -> Env -> Prop} (h : K (.lst true (c.g.P.cellsOf el) (xs ++ ys)) (clr t e1)) :
  ∃ v' w', (Builtin.append_ #[ty, ty2] oty #[v, x]).run c.g.P w = .ok v' w' /\ ∃ y e2 S1 o1, K y e2 /\ St c w0 S0 o0 cargs e2 a w' S1 o1 /\ RepV w'.heap S1 o1 ⟨t, []⟩ v' y /\ newAt ow o1 ⟨t, []⟩ := by
 obtain ⟨o1, s1, r1, n1⟩ := s.appBase ht htn hb rb
 obtain ⟨g, cs, hbase, hg, hx, hnx⟩ := r1.base w rfl
 obtain ⟨z, hz⟩ := Option.isSome_iff_exists.1 hz
 obtain ⟨i, zv, hi, hzv, his, _, hrep⟩ := zeroOf_ok (S := S) hz
 have hcells : c.g.P.cellsOf el = i.size := by
  obtain ⟨i', hi', h9⟩ := cellsOf_pos hp
  rw [hi] at hi'
  cases hi'
  exact h9.symm
 have hby : c.g.P.bytesOf el = i.bytes := by unfold Program.bytesOf; rw [hi]; rfl
 have hzs : zv.cells.size = c.g.P.cellsOf el := by
  have := (hrep w.heap ow ⟨0, []⟩).len
  rw [Array.length_toList] at this
  omega
 obtain ⟨h1, h2, h3, h4, h5⟩ := hsrc
 obtain ⟨v', w', hrun, hres⟩ := run_append w ty ty2 oty el i zv (c.g.P.cellsOf el) (elemT_ok hel) hu2 hi hzv hcells.symm hzs hp v xs.length cs g hbase x ys.length news h2 h1 h3 h5 hfit.2 (by rw [<- hby]; exact hfit.1)
 obtain ⟨o2, s2, r2, n2⟩ := s1.appendOwn htn hbase hg hx hnx hny h2 h4 hres
 exact ⟨v', w', hrun, _, _, S, o2, h, s2, .mk (by
  have := r2.ones v' (by simp)
  cases v' <;> simp_all [Value.oneCell', isAggV]) rfl r2, n1.trans n2⟩
theorem ok_appendN (s : St c w0 S0 o0 cargs e a w S ow) {t : Nat} (ht : free ow t) (htn : t <= c.nt) {o : Oper} (hc : constsOk c o.op = true) {args : Array Operand} {argTypes : Array TypeId} (ho : o.op = .call { callee := .builtin .append, args, argTypes }) {K : AVal -> Env -> Prop}
  (h : appendN c t args argTypes e K) : ∃ v' w', (execOp a.eval o).run c.g.P w = .ok (.value v') w' /\ ∃ y e2 S1 o1, K y e2 /\ St c w0 S0 o0 cargs e2 a w' S1 o1 /\ RepV w'.heap S1 o1 ⟨t, []⟩ v' y /\ newAt ow o1 ⟨t, []⟩ := by
 unfold appendN at h
 split at h
 ·rename_i xo yo ty ty2 hx hy ht1 ht2
  have mem : ∀ {z : Operand} {i : Nat}, args[i]? = some z -> constOk c z = true := fun {z i} hz => constsOk_mem hc (by
   rw [ho]
   simp only [Op.operands, Call.operands]
   exact Array.mem_append.2 (.inr (Array.mem_of_getElem? hz)))
  have rx := opV_sound s xo (mem hx) ⟨c.nt + 1, []⟩
  have ry := opV_sound s yo (mem hy) ⟨c.nt + 1, []⟩
  have run : ∀ {v' : Value} {w' : World}, (Builtin.append_ #[ty, ty2] o.type #[a.eval xo, a.eval yo]).run c.g.P w = .ok v' w' -> (execOp a.eval o).run c.g.P w = .ok (.value v') w' := fun {v' w'} hr => by
   have he := append_at (ty := o.type) (args := args.map a.eval) ht1 ht2 (v := a.eval xo) (x := a.eval yo) (by simp [hx]) (by simp [hy])
   rw [<- he] at hr
   simp [execOp, ho, resolve, invoke, builtin, hr]
  split at h
  ·rename_i el hel
   split at h
   ·rename_i xs e1 hb
    obtain ⟨hp, hz, h⟩ := h
    split at h
    ·rename_i str hstr
     obtain ⟨h1, h2, h3, h4⟩ := h
     rw [hstr] at ry
     obtain ⟨ev, _⟩ := ry.lit
     obtain ⟨v', w', hr, hout⟩ := s.append ht htn (oty := o.type) hel hb rx hp hz (.inr h1) (by rw [h2]; exact srcString (str := str)) (by
      rw [noRefs_all, List.all_eq_true]
      intro z hz
      obtain ⟨b, _, rfl⟩ := List.mem_map.1 hz
      rfl) h3 h4
     exact ⟨v', w', run (by rw [ev]; exact hr), hout⟩
    ·split at h
     ·rename_i sz ys hys
      cases h2 : flatAs ys with
      | false =>
       rw [h2] at h
       have k : appMv c.g.P el ty2 t xs e1 K (slotOf yo) := h
       clear h
       unfold appMv at k
       split at k
       ·rename_i t2 hso
        obtain rfl : yo = .tmp t2 := by
         unfold slotOf at hso
         split at hso
         ·rw [Option.some.inj hso]
         ·cases hso
        unfold appMvA at k
        split at k
        ·rename_i sz2 ys2 het
         obtain ⟨hne, rfl, h1, h3, h4, h5⟩ := k
         obtain ⟨e2, he2⟩ := Option.isSome_iff_exists.1 h1
         have hne : t ≠ t2 := fun h => by rw [h] at hne; simp at hne
         obtain ⟨o1, s1, r1, n1⟩ := s.appBase ht htn hb rx
         obtain ⟨g, cs, hbase, hg, hx, hnx⟩ := r1.base w rfl
         have ry1 := opV_sound s1 (.tmp t2) (mem hy) ⟨c.nt + 1, []⟩
         simp only [opV, het, copyOut] at ry1
         have hgr : getE e1 ⟨t2, []⟩ = some (.lst true (c.g.P.cellsOf el) ys2) := by simp [getE, getP, het]
         obtain ⟨cn, rn⟩ := s1.nodeRep hgr rfl
         have r2 := rn.of_href s1.wo.inj (ry1.one (by simp) rfl (by simp)) rfl (Nat.le_refl _)
         rw [List.take_length] at r2
         obtain ⟨g2, news, hbase2, hg2, hx2, hnx2⟩ := r2.base w rfl
         obtain ⟨k1, k3⟩ := hbase2.src (P := c.g.P)
         have k5 : ∀ u ∈ news, u.oneCell' = true := fun u hu => by
          obtain ⟨k, hk⟩ := List.mem_iff_getElem?.1 hu
          have hkl : k < ys2.length * c.g.P.cellsOf el := by rw [<- hbase2.1]; exact (List.getElem?_eq_some_iff.1 hk).1
          have hj : k / c.g.P.cellsOf el < ys2.length := (Nat.div_lt_iff_lt_mul hp).2 hkl
          refine (hx2 (k / c.g.P.cellsOf el) _ (List.getElem?_eq_getElem hj)).ones u (List.mem_iff_getElem?.2 ⟨k % c.g.P.cellsOf el, ?_⟩)
          have hdm : k / c.g.P.cellsOf el * c.g.P.cellsOf el + k % c.g.P.cellsOf el = k := Nat.div_add_mod' k _
          rw [List.getElem?_take, if_pos (Nat.mod_lt _ hp), List.getElem?_drop, hdm]
          exact hk
         obtain ⟨z, hz⟩ := Option.isSome_iff_exists.1 hz
         obtain ⟨i, zv, hi, hzv, his, _, hrep⟩ := zeroOf_ok (S := S) hz
         have hcells : c.g.P.cellsOf el = i.size := by
          obtain ⟨i', hi', h9⟩ := cellsOf_pos hp
          rw [hi] at hi'
          cases hi'
          exact h9.symm
         have hby : c.g.P.bytesOf el = i.bytes := by unfold Program.bytesOf; rw [hi]; rfl
         have hzs : zv.cells.size = c.g.P.cellsOf el := by
          have := (hrep w.heap ow ⟨0, []⟩).len
          rw [Array.length_toList] at this
          omega
         obtain ⟨v', w', hrun, hres⟩ := run_append w ty ty2 o.type el i zv (c.g.P.cellsOf el) (elemT_ok hel) (.inl ⟨e2, elemT_ok he2⟩) hi hzv hcells.symm hzs hp (a.eval xo) xs.length cs g hbase (a.eval (.tmp t2)) ys2.length news hbase2.1 k1 k3 k5 h4.2 (by rw [<- hby]; exact h4.1)
         obtain ⟨o2, s2, q2, n2⟩ := s1.appendMv htn hne hbase hg hx hnx hnx2 hbase2.1 hx2 hres
         exact ⟨v', w', run hrun, _, _, S, o2, h5, s2, .mk (by
          have := q2.ones v' (by simp)
          cases v' <;> simp_all [Value.oneCell', isAggV]) rfl q2, n1.trans n2⟩
        ·exact k.elim
       ·exact k.elim
      | true =>
      rw [h2] at h
      obtain ⟨rfl, h1, h3, h4, h5⟩ := h
      obtain ⟨e2, he2⟩ := Option.isSome_iff_exists.1 h1
      have hone : isAggA (opV e yo) = false := by
       cases hq : opV e yo <;> first | rfl | (rw [hq] at hys; simp [VS.elems] at hys)
      have r1 := ry.one (by intro hq; rw [hq] at hys; simp [VS.elems] at hys) hone (by intro zs hq; rw [hq] at hys; simp [VS.elems] at hys)
      obtain ⟨news, hsrc⟩ := s.srcList (P := c.g.P) hys h2 r1 hp
      obtain ⟨v', w', hr, hout⟩ := s.append ht htn (oty := o.type) hel hb rx hp hz (.inl ⟨e2, elemT_ok he2⟩) hsrc h3 h4 h5
      exact ⟨v', w', run hr, hout⟩
     ·exact h.elim
   ·exact h.elim
  ·exact h.elim
 ·exact h.elim
theorem ok_append (s : St c w0 S0 o0 cargs e a w S ow) {t : Nat} (ht : free ow t) (htn : t <= c.nt) {o : Oper} (hc : constsOk c o.op = true) {args : Array Operand} {argTypes : Array TypeId} (ho : o.op = .call { callee := .builtin .append, args, argTypes }) {fz : Bool} {K : AVal -> Env -> Prop}
  (h : appendK c fz t args argTypes e K) : ∃ v' w', (execOp a.eval o).run c.g.P w = .ok (.value v') w' /\ ∃ y e2 S1 o1, K y e2 /\ St c w0 S0 o0 cargs e2 a w' S1 o1 /\ RepV w'.heap S1 o1 ⟨t, []⟩ v' y /\ newAt ow o1 ⟨t, []⟩ := by
 unfold appendK at h
 split at h
 ·exact ok_appendN s ht htn hc ho h
 ·split at h
  ·rename_i xo yo ty ty2 hx hy ht1 ht2
   have mem : ∀ {z : Operand} {i : Nat}, args[i]? = some z -> constOk c z = true := fun {z i} hz => constsOk_mem hc (by
    rw [ho]
    simp only [Op.operands, Call.operands]
    exact Array.mem_append.2 (.inr (Array.mem_of_getElem? hz)))
   have rx := opV_sound s xo (mem hx) ⟨c.nt + 1, []⟩
   have ry := opV_sound s yo (mem hy) ⟨c.nt + 1, []⟩
   have run : ∀ {v' : Value} {w' : World}, (Builtin.append_ #[ty, ty2] o.type #[a.eval xo, a.eval yo]).run c.g.P w = .ok v' w' -> (execOp a.eval o).run c.g.P w = .ok (.value v') w' := fun {v' w'} hr => by
    have he := append_at (ty := o.type) (args := args.map a.eval) ht1 ht2 (v := a.eval xo) (x := a.eval yo) (by simp [hx]) (by simp [hy])
    rw [<- he] at hr
    simp [execOp, ho, resolve, invoke, builtin, hr]
   unfold frzAppT at h
   split at h
   ·rename_i el hel
    unfold frzAppB at h
    split at h
    ·rename_i r sz lo n hxo
     unfold frzApp at h
     split at h
     ·rename_i sz2 xs sz3 ys her hys
      obtain ⟨rfl, rfl, rfl, rfl, rfl, hf, hp, hz, h1, h2, h3, h4, h5⟩ := h
      rw [hxo] at rx
      have hgr : getE e ⟨r, []⟩ = some (.lst true (c.g.P.cellsOf el) xs) := by simp [getE, getP, her]
      obtain ⟨cn, rn⟩ := s.nodeRep hgr rfl
      have r1 := rn.of_href s.wo.inj (rx.one (by simp) rfl (by simp)) rfl (Nat.le_refl _)
      rw [List.take_length] at r1
      obtain ⟨g, cs, hbase, hg, hcs, hnx⟩ := r1.base w rfl
      obtain ⟨z, hz⟩ := Option.isSome_iff_exists.1 hz
      obtain ⟨i, zv, hi, hzv, his, _, hrep⟩ := zeroOf_ok (S := S) hz
      have hcells : c.g.P.cellsOf el = i.size := by
       obtain ⟨i', hi', h9⟩ := cellsOf_pos hp
       rw [hi] at hi'
       cases hi'
       exact h9.symm
      have hby : c.g.P.bytesOf el = i.bytes := by unfold Program.bytesOf; rw [hi]; rfl
      have hzs : zv.cells.size = c.g.P.cellsOf el := by
       have := (hrep w.heap ow ⟨0, []⟩).len
       rw [Array.length_toList] at this
       omega
      obtain ⟨e2, he2⟩ := Option.isSome_iff_exists.1 h1
      have hone : isAggA (opV e yo) = false := by
       cases hq : opV e yo <;> first | rfl | (rw [hq] at hys; simp [VS.elems] at hys)
      have ry1 := ry.one (by intro hq; rw [hq] at hys; simp [VS.elems] at hys) hone (by intro zs hq; rw [hq] at hys; simp [VS.elems] at hys)
      obtain ⟨news, k1, k2, k3, k4, k5⟩ := s.srcList (P := c.g.P) hys h2 ry1 hp
      obtain ⟨v', w', hrun, hres⟩ := run_append w ty ty2 o.type el i zv (c.g.P.cellsOf el) (elemT_ok hel) (.inl ⟨e2, elemT_ok he2⟩) hi hzv hcells.symm hzs hp (a.eval xo) xs.length cs g hbase (a.eval yo) ys.length news k2 k1 k3 k5 h4.2 (by rw [<- hby]; exact h4.1)
      obtain ⟨S1, o1, s1, q1, n1⟩ := s.appendFrz (t := t) her hf r1 hbase hg (fun i x hi => (hcs i x hi).flat (flatAs_get hf hi)) k2 k4 hres
      exact ⟨v', w', run hrun, _, _, S1, o1, h5, s1, .mk (one_notAgg (q1.ones v' (by simp))) rfl (.shd q1), fun b m h => .inl (n1 b m h)⟩
     ·exact h.elim
    ·exact h.elim
   ·exact h.elim
  ·exact h.elim
end Go.VS
/- VS: what lies in a box is shared from now on, just ahead of a load. -/
set_option linter.unusedVariables false
set_option linter.unusedSimpArgs false
namespace Go.VS
variable {c : Ctx} {w0 : World} {S0 : Nat -> Prop} {o0 : Own} {cargs : Array Value} {e : Env} {a : Act} {w : World} {S : Nat -> Prop} {ow : Own}
mutual
theorem noRef_toShd : ∀ x : AVal, noRef x = true -> noRef (toShd x) = true
 | .agg xs, h => by simp only [noRef] at h; simp only [toShd, noRef, noRefs_toShds xs h]
 | .tup xs, h => by simp only [noRef] at h; simp only [toShd, noRef, noRefs_toShds xs h]
 | .fn f xs, h => by simp only [noRef] at h; simp only [toShd, noRef, noRefs_toShds xs h]
 | .undef, h => by simp only [toShd, noRef]
 | .lit v, h => by simp only [toShd, noRef]
 | .ifc, h => by simp only [toShd, noRef]
 | .lst own sz xs, h => by simp only [noRef] at h; simp only [toShd, noRef, noRefs_toShds xs h]
 | .ptr true x, h => by simp only [noRef] at h; simp only [toShd, noRef, noRef_toShd x h]
 | .ptr false x, h => by simp only [noRef] at h; simp only [toShd, noRef, noRef_toShd x h]
 | .mp own es, h => by simp only [toShd, noRef]
 | .href l sz lo n, h => by simp [noRef] at h
 | .adr l i fs off, h => by simp [noRef] at h
 | .mref l, h => by simp [noRef] at h
theorem noRefs_toShds : ∀ xs : List AVal, noRefs xs = true -> noRefs (toShds xs) = true
 | [], h => by simp only [toShds, noRefs]
 | x :: xs, h => by
  simp only [noRefs, Bool.and_eq_true] at h
  simp only [toShds, noRefs, Bool.and_eq_true]
  exact ⟨noRef_toShd x h.1, noRefs_toShds xs h.2⟩
end
def frzB (r : Nat) (y : AVal) (e : Env) : Env := fun k => if k = r then .ptr true (toShd y) else killP (below ⟨r, [.idx 0]⟩) (e k)
def ldB (r : Nat) (e : Env) (K : Env -> Prop) : AVal -> Prop
 | .ptr true y => noRef y = true /\ K (frzB r y e)
 | _ => False
def ldF (x : AVal) (e : Env) (K : Env -> Prop) : Bool -> Prop
 | false => K e
 | true => match x with
  | .adr ⟨r, []⟩ _ _ _ => ldB r e K (e r)
  | _ => False
def Ctx.fl (c : Ctx) : Option Nat -> Bool
 | some d => c.mvs.contains (2000 + d)
 | none => false
theorem St.frzBox (s : St c w0 S0 o0 cargs e a w S ow) {r : Nat} {y : AVal} (hx : e r = .ptr true y) (hn : noRef y = true) :
  ∃ S1 o1, St c w0 S0 o0 cargs (frzB r y e) a w S1 o1 /\ ∀ b m, o1 b = some m -> ow b = some m := by
 have hg : getE e ⟨r, []⟩ = some (.ptr true y) := by simp only [getE, getP, hx]
 obtain ⟨cn, rn⟩ := s.nodeRep hg rfl
 obtain ⟨bl, cur, et, fr, rfl, hbl, hol, hfrl, rx⟩ := rn.ptr_inv
 have hy : nodeAt 0 [] (.ptr true y) = some (0, y) := by simp [nodeAt, getF]
 have hflds : (Loc.idx ⟨r, []⟩ 0).flds [] = ⟨r, [.idx 0]⟩ := by simp [Loc.flds, Loc.ext, Loc.idx]
 have hin : ∀ b m, ow b = some m -> m.r = r -> [Step.idx 0] <+: m.p -> dropO ow ⟨r, [.idx 0]⟩ b = none := fun b m hm h1 h2 => by
  simp [dropO, hm, h1, h2]
 have wo2 : Wo c.g c.nt w (fun b => S b \/ ∃ m, ow b = some m /\ m.r = r /\ [Step.idx 0] <+: m.p) (dropO ow ⟨r, [.idx 0]⟩) := by
  have h0 := dropO_wo s.wo ⟨r, [.idx 0]⟩
  refine ⟨h0.rt, h0.inj, h0.lt, fun b hb => ?_, s.wo.gl, s.wo.ngs⟩
  rcases hb with hb | ⟨m, h1, h2, h3⟩
  ·exact h0.sh b hb
  ·exact ⟨hin b m h1 h2 h3, (s.wo.lt b m h1).1⟩
 have fr2 : Fr w0 S0 o0 w (fun b => S b \/ ∃ m, ow b = some m /\ m.r = r /\ [Step.idx 0] <+: m.p) (dropO ow ⟨r, [.idx 0]⟩) := by
  refine ⟨s.fr.os, s.fr.tape, s.fr.output, s.fr.size, fun b h1 h2 => ⟨by simp [dropO, (s.fr.old b h1 h2).1], (s.fr.old b h1 h2).2⟩, fun b h => .inl (s.fr.grow b h), fun b h => ?_, s.fr.shp⟩
  rcases h with h | ⟨m, h, _⟩
  ·exact s.fr.only b h
  ·by_cases hb : b < w0.heap.size
   ·refine .inr (.inr fun h0 => ?_)
    have := (s.fr.old b hb h0).1
    rw [h] at this
    cases this
   ·exact .inr (.inl (by omega))
 have hK : ∀ b m, ow b = some m -> below ⟨r, [.idx 0]⟩ m = false -> dropO ow ⟨r, [.idx 0]⟩ b = some m := fun b m hm hk => dropO_ne hm fun ⟨h1, h2⟩ => by
  simp [below, h1, fuzzy_of h2] at hk
 have ry : RepS w.heap (fun b => S b \/ ∃ m, ow b = some m /\ m.r = r /\ [Step.idx 0] <+: m.p) cur.toList (VS.toShd y) :=
  rx.toShd (fun b h => .inl h) hn fun b q hq => .inr ⟨_, hq, rfl, by simp [Loc.ext, Loc.idx]⟩
 have s2 := s.setAtG hg hy (y' := VS.toShd y) (toShd_w y) (.inl (noRef_toShd y hn)) (.inr ⟨noRef_toShd y hn, by simp only [noRef]; exact hn⟩) (K := below ⟨r, [.idx 0]⟩) wo2 fr2
  (fun b hb => ⟨.inl hb, rfl⟩) (fun b m hm => by
   by_cases h : m.r = r /\ [Step.idx 0] <+: m.p
   ·refine .inr ⟨hin b m hm h.1 h.2, ?_⟩
    rw [hflds]
    obtain ⟨q, hq⟩ := h.2
    exact ⟨q, by rw [Loc.ext]; cases m; simp_all⟩
   ·exact .inl (dropO_ne hm h)) hK (.shd ry) (fun _ _ _ _ => rfl) (fun b cur1 e1 f1 h1 h2 => by
   obtain rfl := s.wo.inj _ _ _ hol h1
   rw [hbl] at h2
   cases h2
   refine ⟨cur, hbl, ?_⟩
   unfold spliced
   simp)
 have he : VS.setAt ⟨r, []⟩ 0 [] (VS.toShd y) (below ⟨r, [.idx 0]⟩) e = frzB r y e := by
  funext k
  simp only [VS.setAt, hg, frzB, nodePut, putF, putP]
 rw [he] at s2
 exact ⟨_, _, s2, fun b m h => (dropO_eq h).1⟩
theorem St.ldF (s : St c w0 S0 o0 cargs e a w S ow) {x : AVal} {K : Env -> Prop} {b : Bool} (h : VS.ldF x e K b) :
  ∃ e1 S1 o1, K e1 /\ St c w0 S0 o0 cargs e1 a w S1 o1 /\ ∀ b m, o1 b = some m -> ow b = some m := by
 unfold VS.ldF at h
 split at h
 ·exact ⟨e, S, ow, h, s, fun _ _ h => h⟩
 ·split at h
  ·rename_i r _ _ _
   unfold ldB at h
   split at h
   ·rename_i y hr
    obtain ⟨S1, o1, h1, h2⟩ := s.frzBox hr h.1
    exact ⟨_, S1, o1, h.2, h1, h2⟩
   ·exact h.elim
  ·exact h.elim
end Go.VS
/- VS: clear of a part of an owned list. -/
set_option linter.unusedVariables false
set_option linter.unusedSimpArgs false
namespace Go.VS
variable {c : Ctx} {w0 : World} {S0 : Nat -> Prop} {o0 : Own} {cargs : Array Value} {e : Env} {a : Act} {w : World} {S : Nat -> Prop} {ow : Own}
def clrA (z : Option AVal) (sz' t sz lo n : Nat) (e : Env) (K : Env -> Prop) : AVal -> Prop
 | .lst true sz2 xs => match z with
  | some z => sz' = sz /\ sz2 = sz /\ lo + n <= xs.length /\ flatAs xs = true /\ flatA z = true /\ K (setS t (.lst true sz (xs.take lo ++ List.replicate n z ++ xs.drop (lo + n))) e)
  | none => False
 | _ => False
def clrT (P : Program) (x : AVal) (e : Env) (K : Env -> Prop) : Option TypeId -> Prop
 | some el => match x with
  | .href ⟨t, []⟩ sz lo n => clrA (zeroOf P el) (P.cellsOf el) t sz lo n e K (e t)
  | _ => False
 | none => False
theorem zeroCells_size (z : Array Value) (n : Nat) : (Builtin.zeroCells z n).size = n * z.size := by simp [Builtin.zeroCells]
theorem zeroCells_seg {z : Array Value} {n i : Nat} (h : i < n) : ((Builtin.zeroCells z n).toList.drop (i * z.size)).take z.size = z.toList := by
 apply List.ext_getElem?
 intro q
 rw [List.getElem?_take]
 split
 ·rename_i hq
  rw [List.getElem?_drop, Array.getElem?_toList]
  have h2 : (i + 1) * z.size <= n * z.size := Nat.mul_le_mul_right _ h
  rw [Nat.add_mul, Nat.one_mul] at h2
  have hlt : i * z.size + q < (Builtin.zeroCells z n).size := by rw [zeroCells_size]; omega
  rw [Array.getElem?_eq_getElem hlt, Array.getElem?_toList, Array.getElem?_eq_getElem hq]
  simp only [Builtin.zeroCells, Array.getElem_map, Array.getElem_range, Option.some.injEq]
  rw [Nat.mul_comm, Nat.mul_add_mod, Nat.mod_eq_of_lt hq, getElem!_pos z q hq]
 ·rename_i hq
  rw [List.getElem?_eq_none (by simpa using hq)]
theorem St.rowPart (s : St c w0 S0 o0 cargs e a w S ow) {t sz lo : Nat} {xs ys : List AVal} (het : e t = .lst true sz xs) (hfl : flatAs xs = true) (hlen : lo + ys.length <= xs.length) (hny : noRefs ys = true)
  {b cap : Nat} {cur : Array Value} {t1 : TypeId} {fr : Nat × Nat} (hb : w.heap[b]? = some (.cells cur t1 fr)) (hob : ow b = some ⟨t, []⟩) {news : List Value} (hnl : news.length = ys.length * sz)
  (hys : ∀ (j : Nat) (y : AVal), ys[j]? = some y -> RepS w.heap S ((news.drop (j * sz)).take sz) y) :
  lo * sz + news.length <= cur.size /\ St c w0 S0 o0 cargs (setS t (.lst true sz (xs.take lo ++ ys ++ xs.drop (lo + ys.length))) e) a (w.setRow b (spliced cur (lo * sz) news).toArray) S ow := by
 have r0 := (het ▸ s.env t).one (by simp) rfl (by simp)
 rcases r0.lst_inv with ⟨hv', h0⟩ | ⟨b', cap', cur', e', fr', hv', hb', hob', hfr', hsz', hlen', hcap', hnr', hm'⟩
 ·subst h0
  simp only [List.length_nil, Nat.le_zero] at hlen
  have h1 : lo = 0 := by omega
  have h2 : ys = [] := List.eq_nil_of_length_eq_zero (by omega)
  subst h1 h2
  simp only [List.length_nil, Nat.zero_mul] at hnl
  have h3 : news = [] := List.eq_nil_of_length_eq_zero hnl
  subst h3
  refine ⟨by simp, ?_⟩
  have e1 : setS t (.lst true sz (([] : List AVal).take 0 ++ [] ++ ([] : List AVal).drop (0 + ([] : List AVal).length))) e = e := by
   funext q
   unfold setS
   split
   ·rename_i hq; rw [hq, het]; rfl
   ·rfl
  have e2 : w.setRow b (spliced cur (0 * sz) []).toArray = w := by
   have : (spliced cur (0 * sz) []).toArray = cur := by simp [spliced]
   rw [this]
   exact setRow_self w b cur t1 fr hb
  rw [e1, e2]
  exact s
 obtain rfl := s.wo.inj _ _ _ hob hob'
 rw [hb] at hb'
 cases hb'
 have hroom : lo * sz + news.length <= cur.size := by
  rw [hnl, hsz', <- Nat.add_mul]
  exact Nat.mul_le_mul_right _ (by omega)
 refine ⟨hroom, ?_⟩
 obtain ⟨g1, g2, g3⟩ := setRow_one w b cur t1 fr hb (spliced cur (lo * sz) news)
 have hspl := spliced_length cur _ _ hroom
 have hne : ∀ b', ow b' ≠ some ⟨t, []⟩ -> (w.setRow b (spliced cur (lo * sz) news).toArray).heap[b']? = w.heap[b']? := fun b' h => g2 b' fun he => h (by rw [he]; exact hob)
 have hshp : ∀ b', sameShape w.heap (w.setRow b (spliced cur (lo * sz) news).toArray).heap b' := fun b' => by
  by_cases h : b' = b
  ·subst h
   refine ⟨fun cur1 t f hh => ?_, fun es k hh => ?_⟩
   ·rw [hb] at hh
    cases hh
    exact ⟨_, g1, by rw [List.size_toArray]; exact hspl⟩
   ·rw [hb] at hh
    cases hh
  ·exact .of_eq (g2 b' h)
 refine ⟨⟨s.wo.rt, s.wo.inj, fun b m h => by rw [g3]; exact s.wo.lt b m h, fun b h => by rw [g3]; exact s.wo.sh b h,
          c.g.stay w _ (fun b' hb' => g2 b' (fun h => by have := (s.wo.lt b _ hob).2; omega)) s.wo.gl, by rw [g3]; exact s.wo.ngs⟩,
   ⟨s.fr.os, s.fr.tape, s.fr.output, by rw [g3]; exact s.fr.size, fun b h1 h2 => ⟨(s.fr.old b h1 h2).1, (hne b (by rw [(s.fr.old b h1 h2).1]; simp)).trans (s.fr.old b h1 h2).2⟩, s.fr.grow, s.fr.only, fun b h => (s.fr.shp b h).trans (hshp b)⟩, fun q => ?_, ?_, s.sz, s.df, s.mu⟩
 ·unfold setS
  split
  ·rename_i hq
   subst hq
   simp only [List.cons.injEq, and_true] at hv'
   have hll : (xs.take lo ++ ys ++ xs.drop (lo + ys.length)).length = xs.length := by simp; omega
   have key : Rep (w.setRow b (spliced cur (lo * sz) news).toArray).heap S ow ⟨q, []⟩ [tv cargs a q] (.lst true sz (xs.take lo ++ ys ++ xs.drop (lo + ys.length))) := by
    have h9 := Rep.lst (S := S) (o := ow) (l := ⟨q, []⟩) (sz := sz) (xs := xs.take lo ++ ys ++ xs.drop (lo + ys.length)) (cap := cap') g1 hob (by rw [List.size_toArray, hspl]; exact hfr') (by rw [List.size_toArray, hspl]; exact hsz') (by rw [hll]; exact hlen') hcap'
     (by
      rw [noRefs_all, List.all_eq_true]
      rw [noRefs_all, List.all_eq_true] at hnr'
      rw [noRefs_all, List.all_eq_true] at hny
      intro y hy
      rcases List.mem_append.1 hy with hy | hy
      ·rcases List.mem_append.1 hy with hy | hy
       ·exact hnr' y (List.mem_of_mem_take hy)
       ·exact hny y hy
      ·exact hnr' y (List.mem_of_mem_drop hy))
     (fun j y hy => ?_)
    ·rw [hll] at h9
     rw [hv']
     exact h9
    ·have hS1 : ∀ {cs : List Value} {y : AVal}, RepS w.heap S cs y -> RepS (w.setRow b (spliced cur (lo * sz) news).toArray).heap S cs y := fun r => r.mono fun b' hb' => ⟨hb', hne b' (by rw [(s.wo.sh b' hb').1]; simp)⟩
     have hlt : (lo * sz) <= cur.toList.length := by rw [Array.length_toList]; omega
     have hjl : j < xs.length := by
      have := (List.getElem?_eq_some_iff.1 hy).1
      rw [hll] at this
      exact this
     have hsz1 : ∀ {k m : Nat}, k < m -> k * sz + sz <= m * sz := fun {k m} h => by
      have : (k + 1) * sz <= m * sz := Nat.mul_le_mul_right _ h
      rwa [Nat.add_mul, Nat.one_mul] at this
     refine .shd ?_
     simp only [List.toList_toArray]
     by_cases h1 : j < lo
     ·rw [List.append_assoc, List.getElem?_append_left (by simp; omega), List.getElem?_take, if_pos h1] at hy
      have e1 : ((spliced cur (lo * sz) news).drop (j * sz)).take sz = (cur.toList.drop (j * sz)).take sz := by
       refine seg_take (N := lo * sz) ?_ (hsz1 h1) |>.trans (seg_take (N := lo * sz) rfl (hsz1 h1)).symm
       unfold spliced
       rw [List.append_assoc, List.take_append_of_le_length (by rw [List.length_take]; omega), List.take_take, Nat.min_self]
      rw [e1]
      exact hS1 ((hm' j y hy).flat (flatAs_get hfl hy))
     ·by_cases h2 : j < lo + ys.length
      ·have hz3 : ys[j - lo]? = some y := by
        rw [List.append_assoc, List.getElem?_append_right (by simp; omega), List.getElem?_append_left (by simp; omega)] at hy
        rw [List.length_take, Nat.min_eq_left (by omega)] at hy
        exact hy
       have e1 : ((spliced cur (lo * sz) news).drop (j * sz)).take sz = (news.drop ((j - lo) * sz)).take sz := by
        have hj : j * sz = lo * sz + (j - lo) * sz := by rw [<- Nat.add_mul]; congr 1; omega
        have h9 := hsz1 (k := j - lo) (m := ys.length) (by omega)
        unfold spliced
        rw [hj, List.append_assoc, List.drop_append, List.drop_eq_nil_of_le (by rw [List.length_take]; omega), List.nil_append, List.length_take, Nat.min_eq_left hlt, Nat.add_sub_cancel_left,
         List.drop_append_of_le_length (by rw [hnl]; omega), List.take_append_of_le_length (by rw [List.length_drop, hnl]; omega)]
       rw [e1]
       exact hS1 (hys _ y hz3)
      ·have hy2 : xs[j]? = some y := by
        rw [List.getElem?_append_right (by simp; omega), List.getElem?_drop] at hy
        simp only [List.length_append, List.length_take] at hy
        rw [Nat.min_eq_left (by omega)] at hy
        rw [show lo + ys.length + (j - (lo + ys.length)) = j by omega] at hy
        exact hy
       have e1 : ((spliced cur (lo * sz) news).drop (j * sz)).take sz = (cur.toList.drop (j * sz)).take sz := by
        have hj : j * sz = (lo * sz + ys.length * sz) + (j - (lo + ys.length)) * sz := by rw [<- Nat.add_mul, <- Nat.add_mul]; congr 1; omega
        unfold spliced
        rw [hnl, hj, <- List.drop_drop, List.drop_left' (by rw [List.length_append, List.length_take, hnl]; omega), List.drop_drop]
       rw [e1]
       exact hS1 ((hm' j y hy2).flat (flatAs_get hfl hy2))
   exact .mk (by rw [hv']; rfl) rfl key
  ·rename_i hq
   have := (s.env q).move (fun _ => false) (S' := S) (h' := (w.setRow b (spliced cur (lo * sz) news).toArray).heap) (o' := ow) (fun b h => ⟨h, hne b (by rw [(s.wo.sh b h).1]; simp)⟩) (fun b m hb _ => ⟨hb, hshp b⟩) ⟨q, []⟩ fun b p hb => ⟨hb, hne b (by
    rw [hb]
    intro h
    exact hq (congrArg Loc.r (Option.some.inj h)))⟩
   rwa [killP_false] at this
 ·unfold setS
  split
  ·rename_i hq
   rw [<- hq, s.lim] at het
   cases het
  ·exact s.lim
theorem ok_clear (s : St c w0 S0 o0 cargs e a w S ow) {o : Oper} (hc : constsOk c o.op = true) {x : Operand} {ty : TypeId} (ho : o.op = .call { callee := .builtin .clear, args := #[x], argTypes := #[ty] }) {K : Env -> Prop} (h : clrT c.g.P (opV e x) e K (elemT c.g.P ty)) :
  ∃ w1 e1, (execOp a.eval o).run c.g.P w = .ok (.value (.tuple #[])) w1 /\ K e1 /\ St c w0 S0 o0 cargs e1 a w1 S ow := by
 have rx := opV_sound s x (constsOk_mem hc (by simp [ho, Op.operands, Call.operands])) ⟨c.nt, []⟩
 unfold clrT at h
 split at h
 case h_2 => exact h.elim
 rename_i el hel
 have hu := elemT_ok hel
 split at h
 case h_2 => exact h.elim
 rename_i t sz lo n hx
 rw [hx] at rx
 unfold clrA at h
 split at h
 case h_2 => exact h.elim
 rename_i sz2 xs het
 split at h
 case h_2 => exact h.elim
 rename_i z hz
 obtain ⟨rfl, rfl, hlen, hfl, hfz, hK⟩ := h
 obtain ⟨i, zv, hi, hzv, hsz, hag, hrep⟩ := zeroOf_ok (S := S) hz
 have hcz : c.g.P.cellsOf el = z.w := by unfold Program.cellsOf; rw [hi]; exact hsz
 have hzs : zv.cells.size = z.w := by
  have := (hrep #[] (fun _ => none) ⟨0, []⟩).len
  simpa using this
 by_cases hn : n = 0
 ·subst hn
  have hsame : setS t (.lst true (c.g.P.cellsOf el) (xs.take lo ++ List.replicate 0 z ++ xs.drop (lo + 0))) e = e := by
   funext q
   unfold setS
   split
   ·rename_i hq
    rw [hq, het]
    simp
   ·rfl
  rw [hsame] at hK
  refine ⟨w, e, ?_, hK, s⟩
  rcases (rx.one (by simp) rfl (by simp)).href_inv with ⟨hv, _, _⟩ | ⟨b, cap, cur, t1, fr, hv, _⟩
  ·simp only [List.cons.injEq, and_true] at hv
   simp [execOp, ho, hv, resolve, invoke, builtin, Builtin.clear_, run_underlying hu]
  ·simp only [List.cons.injEq, and_true] at hv
   simp [execOp, ho, hv, resolve, invoke, builtin, Builtin.clear_, run_underlying hu]
 rcases (rx.one (by simp) rfl (by simp)).href_inv with ⟨_, _, h0⟩ | ⟨b, cap, cur, t1, fr, hv, hb, hob, hfr, hcs, hnc, hmx⟩
 ·exact absurd h0 hn
 simp only [List.cons.injEq, and_true] at hv
 have hzz : (Builtin.zeroCells zv.cells n).toList.length = (List.replicate n z).length * c.g.P.cellsOf el := by rw [Array.length_toList, zeroCells_size, hzs, hcz, List.length_replicate]
 obtain ⟨hroom, s1⟩ := s.rowPart (lo := lo) (ys := List.replicate n z) het hfl (by rw [List.length_replicate]; exact hlen) (by rw [noRefs_all, List.all_eq_true]; intro y hy; rw [List.eq_of_mem_replicate hy]; exact zeroOf_noRef _ _ _ hz) (cap := cap) hb hob hzz (fun j y hy => by
  have hj : j < n := by simpa using (List.getElem?_eq_some_iff.1 hy).1
  rw [List.eq_of_mem_replicate (List.mem_of_getElem? hy)]
  have h10 := zeroCells_seg (z := zv.cells) hj
  rw [hzs, <- hcz] at h10
  rw [h10]
  exact (hrep _ (fun _ => none) ⟨0, []⟩).flat hfz)
 rw [List.length_replicate] at s1
 have h1c : ∀ v ∈ (Builtin.zeroCells zv.cells n).toList, v.oneCell' = true := fun v hv => by
  have hone := (hrep #[] (fun _ => none) ⟨0, []⟩).ones
  simp only [Builtin.zeroCells, Array.toList_map, List.mem_map, Array.toList_range, List.mem_range] at hv
  obtain ⟨j, hj, rfl⟩ := hv
  have hpos : 0 < zv.cells.size := by
   rcases Nat.eq_zero_or_pos zv.cells.size with h | h
   ·rw [h] at hj; omega
   ·exact h
  rw [getElem!_pos zv.cells (j % zv.cells.size) (Nat.mod_lt _ hpos)]
  exact hone _ (by simp)
 have hst := run_storeCells_fr c.g.P b (lo * c.g.P.cellsOf el) t1 fr (Builtin.zeroCells zv.cells n).toList 0 cur w hb hfr (by simpa using hroom) h1c
 rw [Nat.add_zero] at hst
 refine ⟨_, _, ?_, hK, s1⟩
 cases n with
 | zero => exact absurd rfl hn
 | succ n =>
  have hz2 : (zeroValue el).run c.g.P w = .ok zv w := by simp [zeroValue, typeInfo, hi, hzv]
  simp [execOp, ho, hv, resolve, invoke, builtin, Builtin.clear_, run_underlying hu, hz2, hst]
def cpA (sz' t sz lo n : Nat) (e : Env) (els : Option (Nat × List AVal)) (K : AVal -> Env -> Prop) : AVal -> Prop
 | .lst true sz2 xs => match els with
  | some (sz3, ys) => sz' = sz /\ sz2 = sz /\ sz3 = sz /\ 0 < sz /\ ys.length <= n /\ n <= maxLen /\ lo + n <= xs.length /\ flatAs xs = true /\ flatAs ys = true /\ noRefs ys = true /\ K (.lit (.int .i64 ys.length)) (setS t (.lst true sz (xs.take lo ++ ys ++ xs.drop (lo + ys.length))) e)
  | none => False
 | _ => False
def cpT (P : Program) (x : AVal) (e : Env) (els : Option (Nat × List AVal)) (K : AVal -> Env -> Prop) : Option TypeId -> Prop
 | some el => match x with
  | .href ⟨t, []⟩ sz lo n => cpA (P.cellsOf el) t sz lo n e els K (e t)
  | _ => False
 | none => False
theorem ok_copy (s : St c w0 S0 o0 cargs e a w S ow) {o : Oper} (hc : constsOk c o.op = true) {x y : Operand} {ty ty2 : TypeId} (ho : o.op = .call { callee := .builtin .copy, args := #[x, y], argTypes := #[ty, ty2] }) {K : AVal -> Env -> Prop} (h : cpT c.g.P (opV e x) e (VS.elems e (opV e y)) K (elemT c.g.P ty)) :
  ∃ v w1 n e1, (execOp a.eval o).run c.g.P w = .ok (.value (.int .i64 n)) w1 /\ v = AVal.lit (.int .i64 n) /\ litOk (.int .i64 n) /\ K v e1 /\ St c w0 S0 o0 cargs e1 a w1 S ow := by
 have rx := opV_sound s x (constsOk_mem hc (by simp [ho, Op.operands, Call.operands])) ⟨c.nt, []⟩
 have ry := opV_sound s y (constsOk_mem hc (by simp [ho, Op.operands, Call.operands])) ⟨c.nt, []⟩
 unfold cpT at h
 split at h
 case h_2 => exact h.elim
 rename_i el hel
 have hu := elemT_ok hel
 split at h
 case h_2 => exact h.elim
 rename_i t sz lo n hx
 rw [hx] at rx
 unfold cpA at h
 split at h
 case h_2 => exact h.elim
 rename_i sz2 xs het
 split at h
 case h_2 => exact h.elim
 rename_i sz3 ys hys
 obtain ⟨rfl, rfl, rfl, hp, hyn, hmx, hlen, hfl, hfy, hny, hK⟩ := h
 have hone : isAggA (opV e y) = false := by
  cases hq : opV e y <;> first | rfl | (rw [hq] at hys; simp [VS.elems] at hys)
 have ry1 := ry.one (by intro hq; rw [hq] at hys; simp [VS.elems] at hys) hone (by intro zs hq; rw [hq] at hys; simp [VS.elems] at hys)
 obtain ⟨news, k1, k2, k3, k4, k5⟩ := s.srcList (P := c.g.P) hys hfy ry1 hp
 have hsz : (sizeOf el).run c.g.P w = .ok (c.g.P.cellsOf el) w := by
  obtain ⟨i, hi, h9⟩ := cellsOf_pos hp
  simp [sizeOf, typeInfo, hi, h9]
 have hmin : Nat.min ys.length n = ys.length := Nat.min_eq_left hyn
 have hlit : litOk (.int .i64 ys.length) := litOk_len (n := ys.length) (by omega)
 rcases (rx.one (by simp) rfl (by simp)).href_inv with ⟨hv, _, h0⟩ | ⟨b, cap, cur, t1, fr, hv, hb, hob, hfr, hcs, hnc, _⟩
 ·simp only [List.cons.injEq, and_true] at hv
  have h1 : ys = [] := List.eq_nil_of_length_eq_zero (by omega)
  subst h1
  have hsame : setS t (.lst true (c.g.P.cellsOf el) (xs.take lo ++ [] ++ xs.drop (lo + ([] : List AVal).length))) e = e := by
   funext q
   unfold setS
   split
   ·rename_i hq
    rw [hq, het]
    simp
   ·rfl
  rw [hsame] at hK
  have k1' := k1 w
  have k3' := k3 w (Quiet.refl w)
  simp only [List.length_nil] at k1' k3' hmin
  refine ⟨_, w, _, e, ?_, rfl, hlit, hK, s⟩
  subst h0
  simp [execOp, ho, hv, resolve, invoke, builtin, Builtin.copy_, run_underlying hu, k1', k3', hsz, goInt]
 ·simp only [List.cons.injEq, and_true] at hv
  obtain ⟨hroom, s1⟩ := s.rowPart (lo := lo) (ys := ys) het hfl (by omega) hny (cap := cap) hb hob k2 k4
  have hst := run_storeCells_fr c.g.P b (lo * c.g.P.cellsOf el) t1 fr news 0 cur w hb hfr (by simpa using hroom) k5
  rw [Nat.add_zero] at hst
  refine ⟨_, _, _, _, ?_, rfl, hlit, hK, s1⟩
  have k1' := k1 w
  have k3' := k3 w (Quiet.refl w)
  have hmin2 : Nat.min ys.length n = ys.length := hmin
  simp [execOp, ho, hv, resolve, invoke, builtin, Builtin.copy_, run_underlying hu, k1', k3', hsz, goInt, hst, Nat.min_eq_left hyn]
end Go.VS
/- VS, twenty-third part: an operation carried out; a region in its own order. -/
set_option linter.unusedVariables false
set_option linter.unusedSimpArgs false
namespace Go.VS
variable {c : Ctx} {w0 : World} {S0 : Nat -> Prop} {o0 : Own} {cargs : Array Value} {e : Env} {a : Act} {w : World} {S : Nat -> Prop} {ow : Own}
def calleeOf (e : Env) : Operand -> Option (FuncId × List AVal)
 | .func f => some (f, [])
 | .tmp t => match opV e (.tmp t) with
  | .fn f caps => if caps.all (fun x => !isAggA x) = true then some (f, caps) else none
  | _ => none
 | _ => none
def Ctx.ml (c : Ctx) : Option Nat -> Bool
 | some d => c.mvs.contains (3000 + d)
 | none => false
def rootOf : AVal -> Option Nat
 | .adr l _ _ _ => some l.r
 | _ => none
def mlR (t : Nat) (o : Option Nat) (r : Nat) : Bool := o == some r && r != t
def mvA (t : Nat) (x : AVal) (y : AVal) (e : Env) (K : AVal -> Env -> Prop) : Bool -> Prop
 | true => moveK (mlR t (rootOf x)) y e K
 | false => K y e
theorem mvA_out (s : St c w0 S0 o0 cargs e a w S ow) {t : Nat} {b : Bool} {x0 : AVal} (ht : free ow t) (htn : t <= c.nt) {v : Value} {x : AVal} {K : AVal -> Env -> Prop} (r : RepV w.heap S ow ⟨t, []⟩ v x) (h : mvA t x0 x e K b) :
  ∃ y e1 o1, K y e1 /\ St c w0 S0 o0 cargs e1 a w S o1 /\ RepV w.heap S o1 ⟨t, []⟩ v y /\ newAt ow o1 ⟨t, []⟩ := by
 unfold mvA at h
 split at h
 ·have r1 : RepV w.heap S ow ⟨c.nt + 1, []⟩ v x := by
   have := r.move (fun _ => false) (S' := S) (h' := w.heap) (o' := ow) (fun b h => ⟨h, rfl⟩) (fun b m hb hk => ⟨hb, .of_eq rfl⟩) ⟨c.nt + 1, []⟩ (fun b q hb => absurd hb (ht.clear [] b q))
   rwa [killP_false] at this
  obtain ⟨y, e1, o1, h1, h2, h3, h4, _⟩ := moveK_out' s (mvr := mlR t (rootOf x0)) (tl := ⟨t, []⟩) (by simp [mlR]) htn (ht.clear []) r1 h
  exact ⟨y, e1, o1, h1, h2, h3, h4⟩
 ·exact ⟨x, e, ow, h, s, r, newAt.refl _ _⟩
def execK (c : Ctx) (qt : Bool) (rid : Nat) (o : Oper) (e : Env) (K : Env -> Prop) : Prop :=
 match o.op with
 | .store ty x v => qt = false /\ o.dst = none /\ storeK c rid ty x v e K
 | .call { callee := .value g, args, argTypes } => match calleeOf e g with
  | some (f, caps) => callK c qt f (args.toList.map (opV e) ++ caps) e fun y e1 => K (putO c o.dst y e1)
  | none => False
 | .mapUpdate ty x k v => qt = false /\ o.dst = none /\ mapUpK e K (mapT c.g.P ty) (opV e x) (opV e k) (opV e v)
 | .call { callee := .builtin .append, args, argTypes } => qt = false /\ appendK c (c.fz o.dst) (tgt c o.dst) args argTypes e fun y e1 => K (putO c o.dst y e1)
 | .call { callee := .builtin .clear, args, argTypes } => qt = false /\ match args.toList, argTypes.toList with
  | [x], [ty] => clrT c.g.P (opV e x) e (fun e1 => K (putO c o.dst (.tup []) e1)) (elemT c.g.P ty)
  | _, _ => False
 | .call { callee := .builtin .copy, args, argTypes } => qt = false /\ match args.toList, argTypes.toList with
  | [x, y], [ty, _] => cpT c.g.P (opV e x) e (elems e (opV e y)) (fun v e1 => K (putO c o.dst v e1)) (elemT c.g.P ty)
  | _, _ => False
 | .load ty x => ldF (opV e x) e (fun e0 => opK c rid (tgt c o.dst) o e0 fun y e1 => mvA (tgt c o.dst) (opV e0 x) y e1 (fun y e2 => K (putO c o.dst y e2)) (c.ml o.dst)) (c.fl o.dst)
 | _ => opK c rid (tgt c o.dst) o e fun y e1 => K (putO c o.dst y e1)
def Then (c : Ctx) (w0 : World) (S0 : Nat -> Prop) (o0 : Own) (cargs : Array Value) (used : List Nat) (K : Env -> Prop) (a : Act) (w : World) : Prop :=
 ∃ e S o, K e /\ St c w0 S0 o0 cargs e a w S o /\ Held c used o
theorem tgt_far (d : Option Nat) : tgt c d = c.nt \/ c.keep.contains (tgt c d) = false := by
 cases d with
 | none => exact .inl rfl
 | some d =>
  by_cases h : c.keep.contains d = true
  ·exact .inl (if_pos h)
  ·refine .inr ?_
   have : tgt c (some d) = d := if_neg h
   rw [this]
   simpa using h
theorem callK_sound (s : St c w0 S0 o0 cargs e a w S ow) {t : Nat} (ht : free ow t) (htn : t <= c.nt) (htk : t = c.nt \/ c.keep.contains t = false) {f : FuncId} {bs : List AVal} {args : Array Value} (hsz : args.size = bs.length)
  (hr : ∀ (i : Nat) (v : Value) (x : AVal), args[i]? = some v -> bs[i]? = some x -> RepV w.heap S ow ⟨c.nt + 1, []⟩ v x) {qt : Bool} {K : AVal -> Env -> Prop} (h : callK c qt f bs e K) :
  Gives c.g.P f args w fun v w1 => OutC c w0 S0 o0 cargs a w qt t ow K v w1 := by
 rcases h with h | ⟨rfl, i, l, x, as0, Post, h1, h2, h3, h4, h5, h6, h7, h8, h9, h10⟩ | ⟨rfl, lend, i, k, sz, l, xs, as0, Post, h1, h2, h3, h4, h5, h6, h7⟩ | ⟨rfl, lend, i, r, sz, xs, as0, Post, h1, h2, h3, h4, h5, h6, h7⟩
 rotate_left 3
 ·exact call_take s ht htn htk hsz hr h1 h2 h6 h3 h4 h5 h7
 rotate_left 2
 ·exact call_elem s ht htn hsz hr h6 h1 h2 h3 h4 h5 h7
 rotate_left
 ·exact call_tree s ht htn htk hsz hr h1 h2 h3 h4 h5 h6 h7 h8 h9 h10
 obtain ⟨lend, m, as, Post, hv, h⟩ := h
 split at h
 ·rcases h with h | ⟨rs, h1, h2, h3⟩
  ·exact (call_none s ht htn hsz hr hv h.1 h.2).mono fun _ _ h => h.weak
  ·exact (call_frz s ht htn hsz hr hv h1 h2 h3).mono fun _ _ h => h.weak
 ·obtain ⟨rfl, l, x, as0, h1, h2, h3, h4, rfl, h5⟩ := h
  exact call_some s ht htn hsz hr hv h1 h2 h3 h4 h5
theorem run_call {P : Program} {o : Oper} {g : Operand} {args : Array Operand} {argTypes : Array TypeId} (ho : o.op = .call { callee := .value g, args, argTypes }) {f : FuncId} {cvs : Array Value} (hg : a.eval g = .func (.func f) #[] cvs) :
  (execOp a.eval o).run P w = (callFunc f (args.map a.eval ++ cvs)).run P w := by
 unfold execOp
 rw [ho]
 simp only [resolve, hg, Deferred.ofValue, pure_bind, invoke]
 simp
theorem wp_of_gives {P : Program} {o : Oper} {f : FuncId} {args : Array Value} (he : (execOp a.eval o).run P w = (callFunc f args).run P w) {R : Value -> World -> Prop} (h : Gives P f args w R) {K : Act -> World -> Prop} {Q : Exit -> Act -> World -> Prop}
  (hk : ∀ v w1, R v w1 -> K (a.put o.dst v) w1) : o.wp P a w K Q := by
 unfold Oper.wp
 rw [he]
 unfold Gives at h
 split at h
 ·rename_i v w' hr
  rw [hr]
  exact hk _ _ h
 ·rename_i f' args' w' hr
  rw [hr]
  exact Calls.mono h fun e w'' he => by cases e <;> first | exact hk _ _ he | exact he.elim
 ·rename_i row args' w' hr
  rw [hr]
  exact Rows.mono h fun v w'' hv => hk _ _ hv
 ·exact h.elim
theorem then_put {used : List Nat} {d : Option Nat} (hh : Held c used ow) (hd : dstOk c used d = true) {K : Env -> Prop} {v : Value} {w1 : World} {qt : Bool} (h : OutC c w0 S0 o0 cargs a w qt (tgt c d) ow (fun y e1 => K (putO c d y e1)) v w1) :
  Then c w0 S0 o0 cargs (usedBy used d) K (a.put d v) w1 /\ (qt = true -> Quiet w w1) := by
 obtain ⟨x, e1, S1, o1, h1, h2, h3, h4, hq⟩ := h
 obtain ⟨o2, h5, h6⟩ := h2.putO hh h4 hd h3
 exact ⟨⟨_, S1, o2, h1, h5, h6⟩, hq⟩
theorem opK_wp (s : St c w0 S0 o0 cargs e a w S ow) {used : List Nat} (hh : Held c used ow) {o : Oper} (hd : dstOk c used o.dst = true) (hc : constsOk c o.op = true) {rid : Nat} {K : Env -> Prop}
  (h : opK c rid (tgt c o.dst) o e fun y e1 => K (putO c o.dst y e1)) {qt : Bool} {Q : Exit -> Act -> World -> Prop} : o.wp c.g.P a w (fun a1 w1 => Then c w0 S0 o0 cargs (usedBy used o.dst) K a1 w1 /\ (qt = true -> Quiet w w1)) Q := by
 obtain ⟨v, w1, h1, h2⟩ := opK_sound s (tgt_free hh hd) (tgt_le hd) hc h
 unfold Oper.wp
 rw [h1]
 exact then_put hh hd (h2.outC qt)
theorem execK_sound (s : St c w0 S0 o0 cargs e a w S ow) {used : List Nat} (hh : Held c used ow) {o : Oper} (hd : dstOk c used o.dst = true) (hc : constsOk c o.op = true) {rid : Nat} {qt : Bool} {K : Env -> Prop} (h : execK c qt rid o e K) {Q : Exit -> Act -> World -> Prop} :
  o.wp c.g.P a w (fun a1 w1 => Then c w0 S0 o0 cargs (usedBy used o.dst) K a1 w1 /\ (qt = true -> Quiet w w1)) Q := by
 unfold execK at h
 split at h
 ·rename_i ty x v ho
  obtain ⟨hqt, h1, h2⟩ := h
  obtain ⟨w1, e1, o1, h3, h4, h5, h6⟩ := ok_store s hc ho h2
  unfold Oper.wp
  rw [h3]
  show Then c w0 S0 o0 cargs (usedBy used o.dst) K (a.put o.dst undef) w1 /\ (qt = true -> Quiet w w1)
  rw [h1]
  refine ⟨⟨e1, S, o1, h4, h5, fun b m hm => ?_⟩, fun h => by rw [hqt] at h; cases h⟩
  obtain ⟨b', m', h7, h8⟩ := h6 b m hm
  exact h8 ▸ hh b' m' h7
 ·rename_i g args argTypes ho
  split at h
  ·rename_i f caps hf
   have hfar : clear ow ⟨c.nt + 1, []⟩ := s.clear_far
   obtain ⟨cvs, hv, hcs, hcr⟩ : ∃ cvs : Array Value, a.eval g = .func (.func f) #[] cvs /\ cvs.size = caps.length /\ ∀ (i : Nat) (v : Value) (x : AVal), cvs[i]? = some v -> caps[i]? = some x -> RepV w.heap S ow ⟨c.nt + 1, []⟩ v x := by
    unfold calleeOf at hf
    split at hf
    ·cases hf
     exact ⟨#[], rfl, rfl, fun i v x h => by simp at h⟩
    ·rename_i t
     split at hf
     ·rename_i f' caps' hx
      split at hf
      case isFalse => cases hf
      rename_i hca
      cases hf
      have r := opV_sound s (.tmp t) (constsOk_mem hc (by simp [ho, Op.operands, Call.operands])) ⟨c.nt + 1, []⟩
      rw [hx] at r
      obtain ⟨cvs, h1, h2, h3⟩ := (r.one (by simp) rfl (by simp)).fn_inv
      simp only [List.cons.injEq, and_true] at h1
      refine ⟨cvs, h1, h2, fun i v x hi hx => ?_⟩
      have r1 := h3 i v x hi hx
      have r2 := refsOk_any (mvr := fun _ => false) (l := ⟨c.nt + 1, []⟩) (hfar.down [.fld i]) r1
      exact .inl (.of_one (r1.ones v (by simp)) (by
       have := List.all_eq_true.1 hca x (List.mem_of_getElem? hx)
       simpa using this) r2)
     ·cases hf
    ·cases hf
   have hargs : ∀ (i : Nat) (v : Value) (x : AVal), (args.map a.eval ++ cvs)[i]? = some v -> (args.toList.map (opV e) ++ caps)[i]? = some x -> RepV w.heap S ow ⟨c.nt + 1, []⟩ v x := fun i v x h1 h2 => by
    by_cases hi : i < args.size
    ·rw [Array.getElem?_append_left (by simpa using hi), Array.getElem?_map] at h1
     rw [List.getElem?_append_left (by simpa using hi), List.getElem?_map] at h2
     obtain ⟨y, hy, rfl⟩ := Option.map_eq_some_iff.1 h1
     rw [Array.getElem?_toList, hy] at h2
     cases h2
     exact opV_sound s y (constsOk_mem hc (by
      rw [ho]
      simp only [Op.operands, Call.operands]
      exact Array.mem_append.2 (.inr (Array.mem_of_getElem? hy)))) _
    ·rw [Array.getElem?_append_right (by simpa using hi)] at h1
     rw [List.getElem?_append_right (by simpa using hi)] at h2
     simp only [Array.size_map, List.length_map, Array.length_toList] at h1 h2
     exact hcr _ v x h1 h2
   exact wp_of_gives (run_call ho hv) (callK_sound s (tgt_free hh hd) (tgt_le hd) (tgt_far _) (by simp [hcs]) hargs h) fun v w1 h => then_put hh hd h
  ·exact h.elim
 ·rename_i ty x k v ho
  obtain ⟨hqt, h1, h2⟩ := h
  obtain ⟨w1, e1, h3, h4, h5⟩ := ok_mapUpdate s hc ho h2
  unfold Oper.wp
  rw [h3]
  show Then c w0 S0 o0 cargs (usedBy used o.dst) K (a.put o.dst undef) w1 /\ (qt = true -> Quiet w w1)
  rw [h1]
  exact ⟨⟨e1, S, ow, h4, h5, hh⟩, fun h => by rw [hqt] at h; cases h⟩
 ·rename_i args argTypes ho
  obtain ⟨hqt, h⟩ := h
  obtain ⟨v, w1, h1, x, e1, S1, o1, h2, h3, h4, h5⟩ := ok_append s (tgt_free hh hd) (tgt_le hd) hc ho h
  unfold Oper.wp
  rw [h1]
  exact then_put hh hd ⟨x, e1, S1, o1, h2, h3, h4, fun b m hm => (h5 b m hm).imp (fun h => ⟨b, m, h, rfl⟩) fun ⟨q, h⟩ => by rw [h]; rfl, fun h => by rw [hqt] at h; cases h⟩
 ·rename_i args argTypes ho
  obtain ⟨hqt, h⟩ := h
  split at h
  ·rename_i x ty hax hat
   have h1 : args = #[x] := by apply Array.toList_inj.1; simpa using hax
   have h2 : argTypes = #[ty] := by apply Array.toList_inj.1; simpa using hat
   subst h1 h2
   obtain ⟨w1, e1, h3, h4, s1⟩ := ok_clear s hc ho h
   unfold Oper.wp
   rw [h3]
   exact then_put hh hd ⟨.tup [], e1, S, ow, h4, s1, .inr ⟨#[], [], rfl, rfl, rfl, fun i u x hi => by simp at hi⟩, fun b m hm => .inl ⟨b, m, hm, rfl⟩, fun h => by rw [hqt] at h; cases h⟩
  ·exact h.elim
 ·rename_i args argTypes ho
  obtain ⟨hqt, h⟩ := h
  split at h
  ·rename_i x y ty ty2 hax hat
   have h1 : args = #[x, y] := by apply Array.toList_inj.1; simpa using hax
   have h2 : argTypes = #[ty, ty2] := by apply Array.toList_inj.1; simpa using hat
   subst h1 h2
   obtain ⟨v, w1, n, e1, h3, rfl, hl, h4, s1⟩ := ok_copy s hc ho h
   unfold Oper.wp
   rw [h3]
   exact then_put hh hd ⟨_, e1, S, ow, h4, s1, .mkLit hl, fun b m hm => .inl ⟨b, m, hm, rfl⟩, fun h => by rw [hqt] at h; cases h⟩
  ·exact h.elim
 ·rename_i ty x ho
  obtain ⟨e1, S1, o1, h1, s1, h2⟩ := s.ldF h
  have hh1 : Held c used o1 := fun b m hm => hh b m (h2 b m hm)
  obtain ⟨v, h3, y, h4, h5⟩ := opK_pure s1 (by rw [ho]; rfl) hc h1
  unfold Oper.wp
  rw [h3 w (fun _ => Quiet.refl w)]
  obtain ⟨y2, e2, o2, h6, s2, h7, h8⟩ := mvA_out s1 (tgt_free hh1 hd) (tgt_le hd) h5 h4
  exact then_put hh1 hd ⟨y2, e2, S1, o2, h6, s2, h7, fun b m hm => (h8 b m hm).imp (fun h => ⟨b, m, h, rfl⟩) fun ⟨q, h⟩ => by rw [h]; rfl, fun _ => Quiet.refl w⟩
 ·exact opK_wp s hh hd hc h
end Go.VS
/- VS, twenty-fourth part: regions in their own order; codes. -/
set_option linter.unusedVariables false
set_option linter.unusedSimpArgs false
namespace Go.VS
variable {c : Ctx} {w0 : World} {S0 : Nat -> Prop} {o0 : Own} {cargs : Array Value} {e : Env} {a : Act} {w : World} {S : Nat -> Prop} {ow : Own}
def guardK (ops : Array Oper) (o : Oper) (e : Env) (A B : Prop) : Prop :=
 match o.guard with
 | none => A
 | some (j, want) => match (ops[j]?).bind (·.dst) with
  | some d => match e d with
   | .lit (.bool b) => (b = want -> A) /\ (b = !want -> B)
   | .tup [] => B
   | _ => False
  | none => B
def stepK (c : Ctx) (qt : Bool) (rid : Nat) (ops : Array Oper) (o : Oper) (e : Env) (K : Env -> Prop) : Prop :=
 guardK ops o e (execK c qt rid o e K) (K (putO c o.dst (.tup []) e))
def regL (c : Ctx) (rid : Nat) (ops : Array Oper) : List Nat -> Env -> (Env -> Prop) -> Prop
 | [], e, K => K e
 | i :: is, e, K => match ops[i]? with
  | none => regL c rid ops is e K
  | some o => stepK c false rid ops o e fun e1 => regL c rid ops is e1 K
def okIdx (c : Ctx) (ops : Array Oper) : List Nat -> List Nat -> Bool
 | used, [] => true
 | used, i :: is => match ops[i]? with
  | none => okIdx c ops used is
  | some o => dstOk c used o.dst && constsOk c o.op && okIdx c ops (usedBy used o.dst) is
theorem yielded_bool (s : St c w0 S0 o0 cargs e a w S ow) {ops : Array Oper} {j d : Nat} (hd : (ops[j]?).bind (·.dst) = some d) {b : Bool} (he : e d = .lit (.bool b)) : yielded ops a.tmps j = some b := by
 have h := (s.env d)
 rw [he] at h
 have h1 := h.lit.1
 unfold yielded
 rw [hd]
 simp only [Option.bind_some]
 by_cases hlt : d < a.tmps.size
 ·unfold tv at h1
  rw [if_pos hlt] at h1
  rw [Array.getElem?_eq_getElem hlt]
  simp [Array.getD_eq_getD_getElem?, hlt] at h1
  rw [h1]
 ·rcases s.sz.far hlt with h2 | ⟨ad, n, k, h2⟩
  ·rw [h2] at h1; simp [Go.undef] at h1
  ·rw [h2] at h1; cases h1
theorem yielded_none (s : St c w0 S0 o0 cargs e a w S ow) {ops : Array Oper} {j d : Nat} (hd : (ops[j]?).bind (·.dst) = some d) (he : e d = .tup []) : yielded ops a.tmps j = none := by
 have h := (s.env d)
 rw [he] at h
 rcases h with (h | ⟨h, _⟩) | ⟨vs, xs, hx, hv, _⟩
 ·cases h
 ·exact h.no_tup.elim
 ·unfold yielded
  rw [hd]
  simp only [Option.bind_some]
  cases ht : a.tmps[d]? with
  | none => rfl
  | some v =>
   have hlt : d < a.tmps.size := (Array.getElem?_eq_some_iff.1 ht).1
   unfold tv at hv
   rw [if_pos hlt] at hv
   simp only [Array.getD_eq_getD_getElem?, ht, Option.getD_some] at hv
   subst hv
   rfl
theorem guardK_sound (s : St c w0 S0 o0 cargs e a w S ow) {ops : Array Oper} {o : Oper} {A B : Prop} (h : guardK ops o e A B) : if Region.wanted o (yielded ops a.tmps) = true then A else B := by
 unfold guardK at h
 split at h
 ·rename_i hg
  rw [if_pos (by simp [Region.wanted, hg])]
  exact h
 ·rename_i j want hg
  split at h
  ·rename_i d hd
   split at h
   ·rename_i b hb
    have hy := yielded_bool s hd hb
    by_cases hbw : b = want
    ·rw [if_pos (by simp [Region.wanted, hg, hy, hbw])]
     exact h.1 hbw
    ·rw [if_neg (by simp [Region.wanted, hg, hy, hbw])]
     exact h.2 (by cases b <;> cases want <;> simp_all)
   ·rename_i hb
    have hy := yielded_none s hd hb
    rw [if_neg (by simp [Region.wanted, hg, hy])]
    exact h
   ·exact h.elim
  ·rename_i hd
   have hy : yielded ops a.tmps j = none := by unfold yielded; rw [hd]; rfl
   rw [if_neg (by simp [Region.wanted, hg, hy])]
   exact h
theorem stepK_sound (s : St c w0 S0 o0 cargs e a w S ow) {used : List Nat} (hh : Held c used ow) {o : Oper} (hd : dstOk c used o.dst = true) (hc : constsOk c o.op = true) {ops : Array Oper} {rid : Nat} {qt : Bool} {K : Env -> Prop}
  (h : stepK c qt rid ops o e K) {Q : Exit -> Act -> World -> Prop} :
  if Region.wanted o (yielded ops a.tmps) = true then o.wp c.g.P a w (fun a1 w1 => Then c w0 S0 o0 cargs (usedBy used o.dst) K a1 w1 /\ (qt = true -> Quiet w w1)) Q else Then c w0 S0 o0 cargs (usedBy used o.dst) K (a.put o.dst Go.undef) w := by
 have := guardK_sound s h
 split at this
 ·rename_i hw
  rw [if_pos hw]
  exact execK_sound s hh hd hc this
 ·rename_i hw
  rw [if_neg hw]
  obtain ⟨o1, h1, h2⟩ := s.putO hh (fun b m hm => .inl ⟨b, m, hm, rfl⟩) hd (v := Go.undef) (x := .tup []) (.inr ⟨#[], [], rfl, rfl, rfl, fun i u x hi => by simp at hi⟩)
  exact ⟨_, S, o1, this, h1, h2⟩
theorem regL_sound {ops : Array Oper} {rid : Nat} {K : Env -> Prop} {Q : Exit -> Act -> World -> Prop} (hQ : ∀ used a w, Then c w0 S0 o0 cargs used K a w -> Q .normal a w) :
  ∀ (is used : List Nat) (e : Env) (a : Act) (w : World) (S : Nat -> Prop) (ow : Own), St c w0 S0 o0 cargs e a w S ow -> Held c used ow -> okIdx c ops used is = true -> regL c rid ops is e K -> wpOps c.g.P ops Q is a w
 | [], used, e, a, w, S, ow, s, hh, _, h => hQ used a w ⟨e, S, ow, h, s, hh⟩
 | i :: is, used, e, a, w, S, ow, s, hh, hok, h => by
  unfold wpOps
  unfold okIdx at hok
  unfold regL at h
  split at h
  ·rename_i hi
   rw [hi] at hok ⊢
   exact regL_sound hQ is used e a w S ow s hh hok h
  ·rename_i o hi
   rw [hi] at hok ⊢
   simp only [Bool.and_eq_true] at hok
   have := stepK_sound s hh hok.1.1 hok.1.2 h (Q := Q)
   simp only
   split at this
   ·rename_i hw
    rw [if_pos hw]
    refine .inl (Oper.wp_mono ?_ this)
    rintro a1 w1 ⟨⟨e1, S1, o1, h1, h2, h3⟩, _⟩
    exact regL_sound hQ is _ e1 a1 w1 S1 o1 h2 h3 hok.2 h1
   ·rename_i hw
    rw [if_neg hw]
    obtain ⟨e1, S1, o1, h1, h2, h3⟩ := this
    exact regL_sound hQ is _ e1 _ w S1 o1 h2 h3 hok.2 h1
inductive Ex where
 | normal
 | exit (id : Nat)
 | ret
def post (c : Ctx) (w0 : World) (S0 : Nat -> Prop) (o0 : Own) (cargs : Array Value) (Q : Ex -> Env -> Prop) : Exit -> Act -> World -> Prop
 | .normal, a, w => Then c w0 S0 o0 cargs [] (Q .normal) a w
 | .exit id, a, w => Then c w0 S0 o0 cargs [] (Q (.exit id)) a w
 | .ret, a, w => Then c w0 S0 o0 cargs [] (Q .ret) a w
 | _, _, _ => False
def VW (c : Ctx) (code : Code) (e : Env) (Q : Ex -> Env -> Prop) : Prop :=
 ∀ (w0 : World) (S0 : Nat -> Prop) (o0 : Own) (cargs : Array Value) (a : Act) (w : World) (S : Nat -> Prop) (ow : Own), St c w0 S0 o0 cargs e a w S ow -> Held c [] ow -> code.wp c.g.P (post c w0 S0 o0 cargs Q) a w
variable {Q : Ex -> Env -> Prop}
theorem Then.mono {used : List Nat} {K K' : Env -> Prop} (h : Then c w0 S0 o0 cargs used K a w) (hk : ∀ e, K e -> K' e) : Then c w0 S0 o0 cargs used K' a w :=
 let ⟨e, S, o, h1, h2, h3⟩ := h; ⟨e, S, o, hk e h1, h2, h3⟩
theorem VW.mono {code : Code} {Q' : Ex -> Env -> Prop} (h : VW c code e Q) (hq : ∀ x e, Q x e -> Q' x e) : VW c code e Q' := fun w0 S0 o0 cargs a w S ow s hh =>
 wp_mono (h w0 S0 o0 cargs a w S ow s hh) fun x a w hx => by
  cases x <;> first | exact hx.elim | exact Then.mono hx (hq _)
theorem VW.weaken {code : Code} {e' : Env} (hle : Env.le e' e) (h : VW c code e' Q) : VW c code e Q := fun w0 S0 o0 cargs a w S ow s hh => h w0 S0 o0 cargs a w S ow (s.weaken hle) hh
theorem VW.skip (h : Q .normal e) : VW c .skip e Q := fun w0 S0 o0 cargs a w S ow s hh => wp_skip ⟨e, S, ow, h, s, hh⟩
theorem VW.label {l : Nat} (h : Q .normal e) : VW c (.label l) e Q := fun w0 S0 o0 cargs a w S ow s hh => wp_label ⟨e, S, ow, h, s, hh⟩
theorem VW.exit {id : Nat} (h : Q (.exit id) e) : VW c (.exit id) e Q := fun w0 S0 o0 cargs a w S ow s hh => wp_exit ⟨e, S, ow, h, s, hh⟩
theorem VW.ret (h : Q .ret e) : VW c .ret e Q := fun w0 S0 o0 cargs a w S ow s hh => wp_ret ⟨e, S, ow, h, s, hh⟩
def seqQ (K : Env -> Prop) (Q : Ex -> Env -> Prop) : Ex -> Env -> Prop
 | .normal, e => K e
 | x, e => Q x e
theorem VW.seq {x y : Code} (h : VW c x e (seqQ (fun e' => VW c y e' Q) Q)) : VW c (.seq x y) e Q := fun w0 S0 o0 cargs a w S ow s hh =>
 wp_seq (wp_mono (h w0 S0 o0 cargs a w S ow s hh) fun x a w hx => by
  cases x with
  | normal =>
   obtain ⟨e1, S1, o1, h1, h2, h3⟩ := hx
   exact h1 w0 S0 o0 cargs a w S1 o1 h2 h3
  | exit id => exact hx
  | ret => exact hx
  | goto l => exact hx.elim
  | panic ch => exact hx.elim
  | outgrown => exact hx.elim)
theorem VW.cond {cnd : Operand} {x y : Code} (hc : constOk c cnd = true) {b : Bool} (hb : opV e cnd = .lit (.bool b)) (h1 : b = true -> VW c x e Q) (h2 : b = false -> VW c y e Q) : VW c (.cond cnd x y) e Q :=
 fun w0 S0 o0 cargs a w S ow s hh => by
  have r := opV_sound s cnd hc ⟨c.nt, []⟩
  rw [hb] at r
  exact wp_cond_split r.lit.1 (fun h => h1 h w0 S0 o0 cargs a w S ow s hh) fun h => h2 h w0 S0 o0 cargs a w S ow s hh
def blockQ (id : Nat) (Q : Ex -> Env -> Prop) : Ex -> Env -> Prop
 | .exit id', e => if id' = id then Q .normal e else Q (.exit id') e
 | x, e => Q x e
theorem VW.block {id : Nat} {x : Code} (h : VW c x e (blockQ id Q)) : VW c (.block id x) e Q := fun w0 S0 o0 cargs a w S ow s hh =>
 wp_block (wp_mono (h w0 S0 o0 cargs a w S ow s hh) fun x a w hx => by
  cases x with
  | exit id' =>
   simp only [post, Exit.inBlock] at hx ⊢
   by_cases hid : id' = id
   ·rw [if_pos hid]
    exact Then.mono hx fun e he => by simpa only [blockQ, if_pos hid] using he
   ·rw [if_neg hid]
    exact Then.mono hx fun e he => by simpa only [blockQ, if_neg hid] using he
  | normal => exact hx
  | ret => exact hx
  | goto l => exact hx.elim
  | panic ch => exact hx.elim
  | outgrown => exact hx.elim)
theorem least {p : Nat -> Prop} (h : ∃ n, p n) : ∃ n, p n /\ ∀ m, p m -> n <= m := by
 obtain ⟨n, hn⟩ := h
 induction n using Nat.strongRecOn with
 | _ n ih =>
  by_cases hm : ∃ m, m < n /\ p m
  ·obtain ⟨m, h1, h2⟩ := hm
   exact ih m h1 h2
  ·exact ⟨n, hn, fun m hp => Nat.le_of_not_lt fun hlt => hm ⟨m, hlt, hp⟩⟩
theorem VW.loop {x : Code} (I : Env -> Prop) (μ : Env -> Nat) (h0 : I e) (h : ∀ e, I e -> VW c x e (seqQ (fun e' => I e' /\ μ e' < μ e) Q)) : VW c (.loop x) e Q := fun w0 S0 o0 cargs a w S ow s hh => by
 let J : Nat -> Act -> World -> Prop := fun n a w => Then c w0 S0 o0 cargs [] (fun e => I e /\ μ e = n) a w
 open Classical in
 refine wp_loop (fun a w => ∃ n, J n a w) (fun a w => if hx : ∃ n, J n a w then (least hx).choose else 0) ⟨_, e, S, ow, ⟨h0, rfl⟩, s, hh⟩ fun a w hx => ?_
 obtain ⟨h1, h2⟩ := (least hx).choose_spec
 obtain ⟨e1, S1, o1, ⟨h3, h4⟩, h5, h6⟩ := h1
 refine wp_mono (h e1 h3 w0 S0 o0 cargs a w S1 o1 h5 h6) fun x a' w' hq => ?_
 cases x with
 | normal =>
  obtain ⟨e2, S2, o2, ⟨h7, h8⟩, h9, h10⟩ := hq
  have hx' : ∃ n, J n a' w' := ⟨_, e2, S2, o2, ⟨h7, rfl⟩, h9, h10⟩
  refine ⟨hx', ?_⟩
  rw [dif_pos hx', dif_pos hx]
  have := (least hx').choose_spec.2 _ ⟨e2, S2, o2, ⟨h7, rfl⟩, h9, h10⟩
  rw [<- h4]
  omega
 | exit id => exact hq
 | ret => exact hq
 | goto l => exact hq.elim
 | panic ch => exact hq.elim
 | outgrown => exact hq.elim
theorem VW.region {id : Nat} {ops : Array Oper} (hok : okIdx c ops [] (List.range ops.size) = true) (h : regL c id ops (List.range ops.size) e fun e1 => Q .normal (restrict c e1)) : VW c (.region id ops false) e Q :=
 fun w0 S0 o0 cargs a w S ow s hh => wp_region (regL_sound (fun used a w ⟨e1, S1, o1, h1, h2, h3⟩ => ⟨_, S1, _, h1, h2.restrict, h3.restrict⟩) _ [] e a w S ow s hh hok h)
end Go.VS
/- VS, twenty-fifth part: how a function's answer is shown. -/
set_option linter.unusedVariables false
set_option linter.unusedSimpArgs false
namespace Go.VS
variable {c : Ctx} {w0 : World} {S0 : Nat -> Prop} {o0 : Own} {cargs : Array Value} {e : Env} {a : Act} {w : World} {S : Nat -> Prop} {ow : Own}
def retV (P : Program) (e : Env) : ResultVar -> Option AVal
 | .tmp t => some (opV e (.tmp t))
 | .cell t ty => match opV e (.tmp t) with
  | .adr l i fs off => match getE e l with
   | some node => match nodeAt i fs node with
    | some (off', y) => if off' = off /\ y.w = P.cellsOf ty /\ 0 < y.w /\ aggT P ty = some (isAggA y) then some (copyOut ((l.idx i).flds fs) y) else none
    | none => none
   | none => none
  | _ => none
def retVs (P : Program) (e : Env) : List ResultVar -> Option (List AVal)
 | [] => some []
 | r :: rs => match retV P e r, retVs P e rs with
  | some x, some xs => some (x :: xs)
  | _, _ => none
def retM (c : Ctx) (r : Nat) : Bool := !(r == c.nt) && !c.muts.contains r
def endK (m : Option Nat) (Post : AVal -> AVal -> Prop) (y : AVal) (e : Env) : Prop :=
 noRef y = true /\ match m with
  | none => Post y .undef
  | some i => ∃ x', e i = .ptr true x' /\ noRef x' = true /\ Post y x'
def retK (c : Ctx) (rs : Array ResultVar) (m : Option Nat) (Post : AVal -> AVal -> Prop) (e : Env) : Prop :=
 match retVs c.g.P e rs.toList with
 | none => False
 | some [x] => moveK (retM c) x e fun y e1 => endK m Post y e1
 | some xs => xs.all stOk = true /\ movesK (retM c) xs e fun ys e1 => endK m Post (.tup ys) e1
def resOf (tmps : Array Value) : ResultVar -> Sem Value
 | .tmp t => pure (tmps.getD t Go.undef)
 | .cell t ty => do loadVar ty (← asAddr (tmps.getD t Go.undef))
theorem results_eq (fn : Func) (tmps : Array Value) : results fn tmps = (do
  let vs ← fn.results.mapM (resOf tmps)
  pure (if h : vs.size = 1 then vs[0] else .tuple vs)) := by
 unfold results
 congr 1
def slotR : ResultVar -> Nat
 | .tmp t => t
 | .cell t _ => t
theorem retV_sound (s : St c w0 S0 o0 cargs e a w S ow) {r : ResultVar} (ht : tv cargs a (slotR r) = a.tmps.getD (slotR r) Go.undef) {x : AVal} (h : retV c.g.P e r = some x) :
  ∃ v, (resOf a.tmps r).run c.g.P w = .ok v w /\ RepV w.heap S ow ⟨c.nt + 1, []⟩ v x := by
 cases r with
 | tmp t =>
  simp only [retV, Option.some.injEq] at h
  subst h
  exact ⟨_, rfl, opV_tmpS s ht _⟩
 | cell t ty =>
  simp only [retV] at h
  split at h
  ·rename_i l i fs off hx
   split at h
   ·rename_i node hg
    split at h
    ·rename_i off' y hy
     split at h
     ·rename_i hc
      obtain ⟨rfl, h1, h2, h3⟩ := hc
      cases h
      have r := opV_tmpS s ht ⟨c.nt + 1, []⟩
      simp only [slotR] at r
      rw [hx] at r
      obtain ⟨b, cur, t1, fr, hv, hb, hob⟩ := (r.one (by simp) rfl (by simp)).adr_inv
      simp only [List.cons.injEq, and_true] at hv
      obtain ⟨cur', t1', fr', hb', hfit, hfr, hr⟩ := s.content hg hy hob
      obtain ⟨v, hrun, hrep⟩ := load_rep c.g.P w ty hb' h2 h1 h3 (ow := ow) hfit hr
      refine ⟨v, ?_, hrep.copy _⟩
      have hv' : a.tmps.getD t Go.undef = .pointer (some ⟨b, off', none⟩) := hv
      simp only [resOf, hv']
      simp [asAddr, hrun w rfl]
     ·cases h
    ·cases h
   ·cases h
  ·cases h
theorem retVs_sound (s : St c w0 S0 o0 cargs e a w S ow) : ∀ {rs : List ResultVar} (ht : ∀ r ∈ rs, tv cargs a (slotR r) = a.tmps.getD (slotR r) Go.undef) {xs : List AVal}, retVs c.g.P e rs = some xs →
  ∃ vs : List Value, (rs.mapM (resOf a.tmps)).run c.g.P w = .ok vs w /\ vs.length = xs.length ∧
   ∀ (i : Nat) (v : Value) (x : AVal), vs[i]? = some v -> xs[i]? = some x -> RepV w.heap S ow ⟨c.nt + 1, []⟩ v x
 | [], ht, xs, h => by
  simp only [retVs, Option.some.injEq] at h
  subst h
  exact ⟨[], rfl, rfl, fun i v x h => by simp at h⟩
 | r :: rs, ht, xs, h => by
  simp only [retVs] at h
  split at h
  ·rename_i x xs' h1 h2
   cases h
   obtain ⟨v, h3, h4⟩ := retV_sound s (ht r (by simp)) h1
   obtain ⟨vs, h5, h6, h7⟩ := retVs_sound s (fun r hr => ht r (by simp [hr])) h2
   refine ⟨v :: vs, ?_, by simp [h6], fun i u z hu hz => ?_⟩
   ·rw [List.mapM_cons]
    simp only [Sem.run_bind, h3, Result.andThen_ok, h5]
    rfl
   ·cases i with
    | zero => simp only [List.getElem?_cons_zero, Option.some.injEq] at hu hz; subst hu hz; exact h4
    | succ i => exact h7 i u z (by simpa using hu) (by simpa using hz)
  ·cases h
theorem moveVs_aggs {mvr : Nat -> Bool} : ∀ {xs ys : List AVal} {e e1 : Env}, moveVs mvr xs e = some (ys, e1) -> ∀ (i : Nat) (x y : AVal), xs[i]? = some x -> ys[i]? = some y -> isAggA y = isAggA x
 | [], ys, e, e1, h, i, x, y, hx, hy => by simp at hx
 | z :: zs, ys, e, e1, h, i, x, y, hx, hy => by
  simp only [moveVs] at h
  split at h
  ·rename_i y1 e2 h1
   split at h
   ·rename_i ys1 e3 h2
    cases h
    cases i with
    | zero => simp only [List.getElem?_cons_zero, Option.some.injEq] at hx hy; subst hx hy; exact (moveV_agg h1).1
    | succ i => exact moveVs_aggs h2 i x y (by simpa using hx) (by simpa using hy)
   ·cases h
  ·cases h
def Ended (c : Ctx) (w0 : World) (S0 : Nat -> Prop) (o0 : Own) (cargs : Array Value) (a : Act) (m : Option Nat) (Post : AVal -> AVal -> Prop) (v : Value) (w : World) : Prop :=
 ∃ y e S ow, endK m Post y e /\ St c w0 S0 o0 cargs e a w S ow /\ RepV w.heap S ow ⟨c.nt, []⟩ v y
theorem retM_nt : retM c c.nt = false := by simp [retM]
theorem run_results {P : Program} {fn : Func} {rs : Array ResultVar} (hfn : fn.results = rs) {tmps : Array Value} {vs : List Value} (h : (rs.toList.mapM (resOf tmps)).run P w = .ok vs w) :
  (results fn tmps).run P w = .ok (if h : vs.toArray.size = 1 then vs.toArray[0] else .tuple vs.toArray) w := by
 rw [results_eq, hfn, Array.mapM_eq_mapM_toList]
 simp only [Sem.run_bind, map_eq_pure_bind, h, Result.andThen_ok, Sem.run_pure]
theorem retK_sound (s : St c w0 S0 o0 cargs e a w S ow) (hf : free ow c.nt) {rs : Array ResultVar} (ht : ∀ r ∈ rs.toList, tv cargs a (slotR r) = a.tmps.getD (slotR r) Go.undef) {m : Option Nat} {Post : AVal -> AVal -> Prop} (h : retK c rs m Post e) {fn : Func} (hfn : fn.results = rs) :
  ∃ v, (results fn a.tmps).run c.g.P w = .ok v w /\ Ended c w0 S0 o0 cargs a m Post v w := by
 unfold retK at h
 split at h
 ·exact h.elim
 ·rename_i x hx
  obtain ⟨vs, h1, h2, h3⟩ := retVs_sound s ht hx
  match vs, h2 with
  | [v], _ =>
   obtain ⟨y, e1, o1, hK, s1, r1, _⟩ := moveK_out' s (retM_nt) (Nat.le_refl c.nt) (hf.clear []) (h3 0 v x rfl rfl) h
   refine ⟨v, ?_, y, e1, S, o1, hK, s1, r1⟩
   rw [run_results hfn h1]
   rfl
 ·rename_i xs hne hx
  obtain ⟨vs, h1, h2, h3⟩ := retVs_sound s ht hx
  obtain ⟨hok, h⟩ := h
  have hlen : vs.toArray.size ≠ 1 := by
   rw [List.size_toArray, h2]
   intro h9
   obtain ⟨z, hz⟩ := List.length_eq_one_iff.1 h9
   exact hne z hz
  refine ⟨_, run_results hfn h1, ?_⟩
  rw [dif_neg hlen]
  unfold movesK at h
  split at h
  ·rename_i ys e1 hm
   obtain ⟨o1, s1, hyl, hyr, n1, _⟩ := moveVs_sound (t := ⟨c.nt, []⟩) (mvr := retM c) retM_nt (Nat.le_refl _) s.clear_far .fld (fun _ _ hh => by simpa using hh) 0 xs (vs.map fun v => v.cells.toList) (by simp [h2]) s (fun j _ => (hf.clear []).down _)
    (fun _ _ h _ => h) (fun _ _ h => .inl h) (fun i cs x hc hx => by
     rw [List.getElem?_map] at hc
     obtain ⟨v, hv, rfl⟩ := Option.map_eq_some_iff.1 hc
     have hst := List.all_eq_true.1 hok x (List.mem_of_getElem? hx)
     exact refsOk_any (mvr := fun _ => false) s.clear_far ((h3 i v x hv hx).ones (stOk_ne hst).1 (stOk_ne hst).2)) hm
   refine ⟨.tup ys, e1, S, o1, h, s1, .inr ⟨vs.toArray, ys, rfl, rfl, by simp [hyl], fun i u y hu hy => ?_⟩⟩
   simp only [List.getElem?_toArray] at hu
   have h5 := hyr i u.cells.toList y (by rw [List.getElem?_map, hu]; rfl) hy
   rw [Nat.zero_add] at h5
   obtain ⟨x, hx⟩ : ∃ x, xs[i]? = some x := ⟨_, List.getElem?_eq_getElem (by rw [<- h2]; exact (List.getElem?_eq_some_iff.1 hu).1)⟩
   refine .inr ⟨h5, ?_⟩
   rw [moveVs_aggs hm i x y hx hy]
   have hst := List.all_eq_true.1 hok x (List.mem_of_getElem? hx)
   rcases h3 i u x hu hx with (h6 | ⟨_, h6⟩) | ⟨_, xs', h6, _⟩
   ·exact absurd h6 (stOk_ne hst).1
   ·exact h6
   ·exact absurd h6 ((stOk_ne hst).2 xs')
  ·exact h.elim
end Go.VS
/- VS, twenty-sixth part: a function's answer from its code. -/
set_option linter.unusedVariables false
set_option linter.unusedSimpArgs false
namespace Go.VS
variable {c : Ctx} {w0 : World} {S0 : Nat -> Prop} {o0 : Own} {cargs : Array Value} {e : Env} {a : Act} {w : World} {S : Nat -> Prop} {ow : Own}
def argsE (as : List AVal) : Env := fun r => as.getD r .undef
def retO (nt n : Nat) (m : Option Nat) (o : Own) : Own := fun b => match o b with
 | none => none
 | some l => if l.r = nt then some ⟨n, l.p⟩ else if m = some l.r then some l else none
theorem retO_eq {nt n b : Nat} {m : Option Nat} {o : Own} {l : Loc} (h : retO nt n m o b = some l) : (∃ p, o b = some ⟨nt, p⟩ /\ l = ⟨n, p⟩) \/ (o b = some l /\ m = some l.r /\ l.r ≠ nt) := by
 unfold retO at h
 split at h
 ·cases h
 ·rename_i l' hl'
  split at h
  ·rename_i hn
   cases h
   exact .inl ⟨l'.p, by rw [hl', <- hn], rfl⟩
  ·rename_i hn
   split at h
   ·rename_i hm
    cases h
    exact .inr ⟨hl', hm, hn⟩
   ·cases h
theorem Held.free {used : List Nat} (h : Held c used ow) : free ow c.nt := fun b m hb hr => (h b m hb).1 hr
theorem VCalls.intro {f : FuncId} {fn : Func} {code : Code} (c : Ctx) (hf : c.g.P.funcs[f]? = some fn) (hb : fn.body = some code) (hnm : fn.name ≠ "runtime.NumGoroutine") (hnt : c.nt = fn.ntmps) {as : List AVal} {m : Option Nat} (hm : c.muts = m.toList)
  (hk : ∀ i, m = some i -> c.keep.contains i = true /\ i < as.length) (hl : as.length <= c.nt) {Post : AVal -> AVal -> Prop}
  (h : VW c code (argsE as) fun x e => match x with
   | .exit _ => False
   | _ => retK c fn.results m Post e) : VCalls c.g f as m Post := by
 intro w S o args hsz hwo hro hargs
 have hrun : (callFunc f args).run c.g.P w = .ok (.enter f args) w := by
  have hp : (program).run c.g.P w = .ok c.g.P w := rfl
  simp only [callFunc, Sem.run_bind, hp, Result.andThen_ok, hf, hb, Option.isNone_some]
  have : (fn.name == "runtime.NumGoroutine") = false := by simpa using hnm
  rw [this]
  rfl
 unfold Gives
 rw [hrun]
 have hmi : ∀ b l, o b = some l -> l.r < as.length := fun b l hbl => (hro b l hbl).2
 have wo : Wo c.g c.nt w S o := ⟨fun b l hbl => by have := hmi b l hbl; omega, hwo.inj, hwo.lt, hwo.sh, hwo.gl, hwo.ngs⟩
 have fr : Fr w S o w S o := ⟨rfl, rfl, rfl, Nat.le_refl _, fun b _ h => ⟨h, rfl⟩, fun _ h => h, fun _ h => .inl h, fun _ _ => .of_eq rfl⟩
 have s0 : St c w S o args (argsE as) { tmps := args ++ Array.replicate (fn.ntmps - args.size) Go.undef, defers := [] } w S o := by
  have hsz0 : (args ++ Array.replicate (fn.ntmps - args.size) Go.undef).size = c.nt := by simp; omega
  have htv : ∀ r, tv args { tmps := args ++ Array.replicate (fn.ntmps - args.size) Go.undef, defers := [] } r = (args ++ Array.replicate (fn.ntmps - args.size) Go.undef).getD r Go.undef := fun r => by
   unfold tv
   split
   ·rfl
   ·rename_i hr
    simp only at hr
    simp [Array.getD_eq_getD_getElem?, show args.size <= r by omega, show ¬ r < fn.ntmps by omega]
  refine ⟨wo, fr, fun r => ?_, ?_, ?_, rfl, fun i hi => ?_⟩
  ·rw [htv]
   unfold argsE
   by_cases hr : r < args.size
   ·have h1 : args[r]? = some args[r] := Array.getElem?_eq_getElem hr
    have h2 : as[r]? = some (as[r]'(by omega)) := List.getElem?_eq_getElem (by omega)
    have h3 := hargs r _ _ h1 h2
    simp only [Array.getD_eq_getD_getElem?, List.getD_eq_getElem?_getD, Array.getElem?_append_left hr, h1, h2, Option.getD_some]
    exact h3
   ·rw [List.getD_eq_getElem?_getD, List.getElem?_eq_none (by omega)]
    exact .inl (.inl rfl)
  ·unfold argsE
   rw [List.getD_eq_getElem?_getD, List.getElem?_eq_none hl]
   rfl
  ·exact .inl ⟨by omega, hsz0⟩
  ·rw [htv]
   rw [hm] at hi
   have hi' : m = some i := by cases m <;> simp_all
   have := (hk i hi').2
   simp only [Array.getD_eq_getD_getElem?]
   rw [Array.getElem?_append_left (by omega)]
 have hh : Held c [] o := fun b l hbl => ⟨by have := hmi b l hbl; omega, .inl (hk l.r (hro b l hbl).1).1⟩
 have main := h w S o args _ w S o s0 hh
 refine Calls.mono (calls_of_wp hf hb (R := fun en w' => match en with
  | .returned v => ∃ a, Ended c w S o args a m Post v w'
  | _ => False) (wp_mono main fun x a1 w1 hx => ?_)) fun en w' hen => ?_
 ·have fin : ∀ {K : Env -> Prop}, (∀ e, K e -> retK c fn.results m Post e) -> Then c w S o args [] K a1 w1 -> a1.defers = [] /\ ∃ v, (results fn a1.tmps).run c.g.P w1 = .ok v w1 /\ ∃ a, Ended c w S o args a m Post v w1 := by
   rintro K hK ⟨e1, S1, o1, h1, h2, h3⟩
   obtain ⟨v, h4, h5⟩ := retK_sound h2 h3.free (fun r _ => h2.sz.plain (by omega) _) (hK e1 h1) rfl
   exact ⟨h2.df, v, h4, a1, h5⟩
  cases x with
  | normal => exact fin (fun _ h => h) hx
  | ret => exact fin (fun _ h => h) hx
  | exit id => obtain ⟨_, _, _, h1, _⟩ := hx; exact h1.elim
  | goto l => exact hx.elim
  | panic ch => exact hx.elim
  | outgrown => exact hx.elim
 ·cases en with
  | panicked ch => exact hen.elim
  | outgrown => exact hen.elim
  | returned v =>
   obtain ⟨a1, y, e1, S1, o1, ⟨hny, hpost⟩, s1, ry⟩ := hen
   have hin : ∀ b, o1 b = none -> retO c.nt as.length m o1 b = none := fun b hb => by simp [retO, hb]
   have hto : ∀ b i q, m = some i -> o1 b = some ⟨i, q⟩ -> retO c.nt as.length m o1 b = some ⟨i, q⟩ := fun b i q hi hb => by
    have := (hk i hi).2
    unfold retO
    rw [hb]
    simp only
    rw [if_neg (by omega), if_pos hi]
   have wo2 : Wo c.g as.length w' S1 (retO c.nt as.length m o1) := by
    refine ⟨fun b l hbl => ?_, fun b b' l h1 h2 => ?_, fun b l hbl => ?_, fun b hb => ⟨hin b (s1.wo.sh b hb).1, (s1.wo.sh b hb).2⟩, s1.wo.gl, s1.wo.ngs⟩
    ·rcases retO_eq hbl with ⟨p, _, rfl⟩ | ⟨_, h1, _⟩
     ·exact Nat.le_refl _
     ·exact Nat.le_of_lt (hk _ h1).2
    ·rcases retO_eq h1 with ⟨p, h3, rfl⟩ | ⟨h3, h4, _⟩ <;> rcases retO_eq h2 with ⟨p', h5, h6⟩ | ⟨h5, h6, _⟩
     ·cases h6
      exact s1.wo.inj _ _ _ h3 h5
     ·exact absurd (hk _ h6).2 (Nat.lt_irrefl _)
     ·rw [h6] at h4
      exact absurd (hk _ h4).2 (Nat.lt_irrefl _)
     ·exact s1.wo.inj _ _ _ h3 h5
    ·rcases retO_eq hbl with ⟨p, h3, _⟩ | ⟨h3, _⟩ <;> exact s1.wo.lt _ _ h3
   have fr2 : Fr w S o w' S1 (retO c.nt as.length m o1) :=
    ⟨s1.fr.os, s1.fr.tape, s1.fr.output, s1.fr.size, fun b h1 h2 => ⟨hin b (s1.fr.old b h1 h2).1, (s1.fr.old b h1 h2).2⟩, s1.fr.grow, s1.fr.only, s1.fr.shp⟩
   have ry2 : RepV w'.heap S1 (retO c.nt as.length m o1) ⟨as.length, []⟩ v y := by
    have := ry.move (S' := S1) (h' := w'.heap) (o' := retO c.nt as.length m o1) (fun _ => true) (fun b hb => ⟨hb, rfl⟩) (fun b l hb hk => by cases hk) ⟨as.length, []⟩ fun b q hb => ⟨by
     simp only [Loc.ext, List.nil_append] at hb ⊢
     simp [retO, hb], rfl⟩
    rwa [killP_noRef _ _ hny] at this
   have own2 : ∀ b l, retO c.nt as.length m o1 b = some l -> l.r = as.length \/ m = some l.r := fun b l hbl => by
    rcases retO_eq hbl with ⟨p, _, rfl⟩ | ⟨_, h1, _⟩
    ·exact .inl rfl
    ·exact .inr h1
   split at hpost
   ·exact ⟨y, .undef, S1, _, hpost, wo2, fr2, own2, ry2, hny, fun i u hi => by cases hi⟩
   ·rename_i i
    obtain ⟨x', h1, h2, h3⟩ := hpost
    refine ⟨y, x', S1, _, h3, wo2, fr2, own2, ry2, hny, fun i' u hi hu => ?_⟩
    cases hi
    refine ⟨?_, h2⟩
    have r1 := s1.env i
    rw [h1, s1.mu i (by rw [hm]; simp)] at r1
    have hu' : args.getD i Go.undef = u := by simp [Array.getD_eq_getD_getElem?, hu]
    rw [hu'] at r1
    have := r1.move (S' := S1) (h' := w'.heap) (o' := retO c.nt as.length (some i) o1) (fun _ => true) (fun b hb => ⟨hb, rfl⟩) (fun b l hb hk => by cases hk) ⟨i, []⟩ fun b q hb => ⟨by
     simp only [Loc.ext, List.nil_append] at hb ⊢
     exact hto b i q rfl hb, rfl⟩
    rwa [killP_noRef _ _ (by simpa only [noRef] using h2)] at this
end Go.VS
/- VS, twenty-seventh part: states as lists; rules to reckon with. -/
set_option linter.unusedVariables false
set_option linter.unusedSimpArgs false
namespace Go.VS
def mkE (l : List (Nat × AVal)) : Env := fun r => match l with
 | [] => .undef
 | (k, x) :: l => if r = k then x else mkE l r
theorem mkE_nil (r : Nat) : mkE [] r = .undef := rfl
theorem mkE_cons (k : Nat) (x : AVal) (l : List (Nat × AVal)) (r : Nat) : mkE ((k, x) :: l) r = if r = k then x else mkE l r := rfl
def numbered : Nat -> List AVal -> List (Nat × AVal)
 | _, [] => []
 | k, x :: xs => (k, x) :: numbered (k + 1) xs
theorem mkE_numbered : ∀ (xs : List AVal) (k r : Nat), mkE (numbered k xs) (k + r) = xs.getD r .undef
 | [], k, r => by simp [numbered, mkE]
 | x :: xs, k, 0 => by simp [numbered, mkE]
 | x :: xs, k, r + 1 => by
  have := mkE_numbered xs (k + 1) r
  rw [show k + 1 + r = k + (r + 1) by omega] at this
  simp only [numbered, mkE, List.getD_cons_succ]
  rw [if_neg (by omega)]
  exact this
theorem argsE_eq (xs : List AVal) : argsE xs = mkE (numbered 0 xs) := by
 funext r
 have := mkE_numbered xs 0 r
 rw [Nat.zero_add] at this
 exact this.symm
def mapE (f : AVal -> AVal) : List (Nat × AVal) -> List (Nat × AVal)
 | [] => []
 | (k, x) :: l => (k, f x) :: mapE f l
theorem mkE_mapE (f : AVal -> AVal) (hf : f .undef = .undef) : ∀ (l : List (Nat × AVal)) (r : Nat), mkE (mapE f l) r = f (mkE l r)
 | [], r => by simp [mapE, mkE, hf]
 | (k, x) :: l, r => by
  simp only [mapE, mkE]
  split
  ·rfl
  ·exact mkE_mapE f hf l r
def delE (d : Nat) : List (Nat × AVal) -> List (Nat × AVal)
 | [] => []
 | (k, x) :: l => if k = d then delE d l else (k, x) :: delE d l
theorem mkE_delE (d : Nat) : ∀ (l : List (Nat × AVal)) (r : Nat), r ≠ d -> mkE (delE d l) r = mkE l r
 | [], r, h => rfl
 | (k, x) :: l, r, h => by
  simp only [delE]
  split
  ·rename_i hk
   simp only [mkE, mkE_delE d l r h]
   rw [if_neg (by omega)]
  ·simp only [mkE, mkE_delE d l r h]
theorem putE_keep {c : Ctx} {d : Nat} (hk : c.keep.contains d = true) (x : AVal) (l : List (Nat × AVal)) : putE c d x (mkE l) = mkE ((d, killP (killRoots d c.nt) x) :: mapE (killP (killRoots d c.nt)) (delE d l)) := by
 funext r
 simp only [putE, hk, if_true, mkE]
 split
 ·rfl
 ·rename_i h
  rw [mkE_mapE _ rfl, mkE_delE d l r h]
theorem putE_fresh {c : Ctx} {d : Nat} (hk : c.keep.contains d = false) (x : AVal) (l : List (Nat × AVal)) : putE c d x (mkE l) = mkE ((d, x) :: l) := by
 funext r
 simp only [putE, hk, mkE]
 rfl
def onlyE (ks : List Nat) (f : AVal -> AVal) : List (Nat × AVal) -> List (Nat × AVal)
 | [] => []
 | (k, x) :: l => if ks.contains k = true then (k, f x) :: onlyE ks f l else onlyE ks f l
theorem mkE_onlyE (ks : List Nat) (f : AVal -> AVal) (hf : f .undef = .undef) : ∀ (l : List (Nat × AVal)) (r : Nat), mkE (onlyE ks f l) r = if ks.contains r = true then f (mkE l r) else .undef
 | [], r => by simp [onlyE, mkE, hf]
 | (k, x) :: l, r => by
  simp only [onlyE]
  split
  ·rename_i hk
   simp only [mkE]
   split
   ·rename_i h
    rw [h, if_pos hk]
   ·exact mkE_onlyE ks f hf l r
  ·rename_i hk
   rw [mkE_onlyE ks f hf l r]
   by_cases hr : ks.contains r = true
   ·rw [if_pos hr, if_pos hr]
    simp only [mkE]
    rw [if_neg (by rintro rfl; exact hk hr)]
   ·rw [if_neg hr, if_neg hr]
theorem restrict_eq (c : Ctx) (l : List (Nat × AVal)) : restrict c (mkE l) = mkE (onlyE c.keep (killP (notKept c)) l) := by
 funext r
 rw [mkE_onlyE _ _ rfl]
 rfl
def regO (c : Ctx) (rid : Nat) (ops : Array Oper) : List Oper -> Env -> (Env -> Prop) -> Prop
 | [], e, K => K e
 | o :: os, e, K => stepK c false rid ops o e fun e1 => regO c rid ops os e1 K
theorem regL_of_regO (c : Ctx) (rid : Nat) (ops : Array Oper) : ∀ (n s : Nat) (e : Env) (K : Env -> Prop), s + n = ops.size -> regO c rid ops (ops.toList.drop s) e K = regL c rid ops (List.range' s n) e K
 | 0, s, e, K, h => by
  rw [List.drop_eq_nil_of_le (by simp; omega)]
  rfl
 | n + 1, s, e, K, h => by
  have hs : s < ops.size := by omega
  rw [List.drop_eq_getElem_cons (by simpa using hs), List.range'_succ]
  simp only [regO, regL, Array.getElem?_eq_getElem hs, Array.getElem_toList]
  congr 1
  funext e1
  exact regL_of_regO c rid ops n (s + 1) e1 K (by omega)
theorem VW.regionO {c : Ctx} {e : Env} {Q : Ex -> Env -> Prop} {id : Nat} {ops : Array Oper} (hok : okIdx c ops [] (List.range ops.size) = true) (h : regO c id ops ops.toList e fun e1 => Q .normal (restrict c e1)) : VW c (.region id ops false) e Q :=
 VW.region hok (by
  have := regL_of_regO c id ops ops.size 0 e (fun e1 => Q .normal (restrict c e1)) (by omega)
  rw [List.range_eq_range', <- this]
  exact h)
def Func.code (fn : Func) : Code := fn.body.getD .skip
theorem VCalls.of {f : FuncId} {fn : Func} (c : Ctx) (hf : c.g.P.funcs[f]? = some fn) (hb : fn.body.isSome = true) (hnm : (fn.name == "runtime.NumGoroutine") = false) (hnt : c.nt = fn.ntmps) {xs : List AVal} {m : Option Nat} (hm : c.muts = m.toList)
  (hk : ∀ i, m = some i -> c.keep.contains i = true /\ i < xs.length) (hl : Nat.ble xs.length c.nt = true) {Post : AVal -> AVal -> Prop}
  (h : VW c (Func.code fn) (mkE (numbered 0 xs)) fun x e => match x with
   | .exit _ => False
   | _ => retK c fn.results m Post e) : VCalls c.g f xs m Post := by
 obtain ⟨code, hc⟩ := Option.isSome_iff_exists.1 hb
 refine VCalls.intro c hf hc (by simpa using hnm) hnt hm hk (Nat.le_of_ble_eq_true hl) ?_
 rw [argsE_eq]
 have : Func.code fn = code := by simp [Func.code, hc]
 rw [<- this]
 exact h
end Go.VS
/- VS: a function that writes into the lists of a parameter: its answer, from its code. -/
set_option linter.unusedVariables false
set_option linter.unusedSimpArgs false
namespace Go.VS
variable {c : Ctx} {w0 : World} {S0 : Nat -> Prop} {o0 : Own} {cargs : Array Value} {e : Env} {a : Act} {w : World} {S : Nat -> Prop} {ow : Own}
def retG (c : Ctx) (rs : Array ResultVar) (E : AVal -> Env -> Prop) (e : Env) : Prop :=
 match retVs c.g.P e rs.toList with
 | none => False
 | some [x] => moveK (retM c) x e E
 | some xs => xs.all stOk = true /\ movesK (retM c) xs e fun ys e1 => E (.tup ys) e1
def EndedG (c : Ctx) (w0 : World) (S0 : Nat -> Prop) (o0 : Own) (cargs : Array Value) (a : Act) (E : AVal -> Env -> Prop) (v : Value) (w : World) : Prop :=
 ∃ y e S ow, E y e /\ St c w0 S0 o0 cargs e a w S ow /\ RepV w.heap S ow ⟨c.nt, []⟩ v y
theorem retG_sound (s : St c w0 S0 o0 cargs e a w S ow) (hf : free ow c.nt) {rs : Array ResultVar} (ht : ∀ r ∈ rs.toList, tv cargs a (slotR r) = a.tmps.getD (slotR r) Go.undef) {E : AVal -> Env -> Prop} (h : retG c rs E e) {fn : Func} (hfn : fn.results = rs) :
  ∃ v, (results fn a.tmps).run c.g.P w = .ok v w /\ EndedG c w0 S0 o0 cargs a E v w := by
 unfold retG at h
 split at h
 ·exact h.elim
 ·rename_i x hx
  obtain ⟨vs, h1, h2, h3⟩ := retVs_sound s ht hx
  match vs, h2 with
  | [v], _ =>
   obtain ⟨y, e1, o1, hK, s1, r1, _⟩ := moveK_out' s (retM_nt) (Nat.le_refl c.nt) (hf.clear []) (h3 0 v x rfl rfl) h
   refine ⟨v, ?_, y, e1, S, o1, hK, s1, r1⟩
   rw [run_results hfn h1]
   rfl
 ·rename_i xs hne hx
  obtain ⟨vs, h1, h2, h3⟩ := retVs_sound s ht hx
  obtain ⟨hok, h⟩ := h
  have hlen : vs.toArray.size ≠ 1 := by
   rw [List.size_toArray, h2]
   intro h9
   obtain ⟨z, hz⟩ := List.length_eq_one_iff.1 h9
   exact hne z hz
  refine ⟨_, run_results hfn h1, ?_⟩
  rw [dif_neg hlen]
  unfold movesK at h
  split at h
  ·rename_i ys e1 hm
   obtain ⟨o1, s1, hyl, hyr, n1, _⟩ := moveVs_sound (t := ⟨c.nt, []⟩) (mvr := retM c) retM_nt (Nat.le_refl _) s.clear_far .fld (fun _ _ hh => by simpa using hh) 0 xs (vs.map fun v => v.cells.toList) (by simp [h2]) s (fun j _ => (hf.clear []).down _)
    (fun _ _ h _ => h) (fun _ _ h => .inl h) (fun i cs x hc hx => by
     rw [List.getElem?_map] at hc
     obtain ⟨v, hv, rfl⟩ := Option.map_eq_some_iff.1 hc
     have hst := List.all_eq_true.1 hok x (List.mem_of_getElem? hx)
     exact refsOk_any (mvr := fun _ => false) s.clear_far ((h3 i v x hv hx).ones (stOk_ne hst).1 (stOk_ne hst).2)) hm
   refine ⟨.tup ys, e1, S, o1, h, s1, .inr ⟨vs.toArray, ys, rfl, rfl, by simp [hyl], fun i u y hu hy => ?_⟩⟩
   simp only [List.getElem?_toArray] at hu
   have h5 := hyr i u.cells.toList y (by rw [List.getElem?_map, hu]; rfl) hy
   rw [Nat.zero_add] at h5
   obtain ⟨x, hx⟩ : ∃ x, xs[i]? = some x := ⟨_, List.getElem?_eq_getElem (by rw [<- h2]; exact (List.getElem?_eq_some_iff.1 hu).1)⟩
   refine .inr ⟨h5, ?_⟩
   rw [moveVs_aggs hm i x y hx hy]
   have hst := List.all_eq_true.1 hok x (List.mem_of_getElem? hx)
   rcases h3 i u x hu hx with (h6 | ⟨_, h6⟩) | ⟨_, xs', h6, _⟩
   ·exact absurd h6 (stOk_ne hst).1
   ·exact h6
   ·exact absurd h6 ((stOk_ne hst).2 xs')
  ·exact h.elim
def endM (i : Nat) (Post : AVal -> AVal -> Prop) (y : AVal) (e : Env) : Prop := noRef y = true /\ noRef (e i) = true /\ Post y (e i)
theorem VMut.intro {f : FuncId} {fn : Func} {code : Code} (c : Ctx) (hf : c.g.P.funcs[f]? = some fn) (hb : fn.body = some code) (hnm : fn.name ≠ "runtime.NumGoroutine") (hnt : c.nt = fn.ntmps) {as : List AVal} {i : Nat} (hm : c.muts = [i])
  (hk : c.keep.contains i = true /\ i < as.length) (hl : as.length <= c.nt) {Post : AVal -> AVal -> Prop}
  (h : VW c code (argsE as) fun x e => match x with
   | .exit _ => False
   | _ => retG c fn.results (endM i Post) e) : VMut c.g f as i Post := by
 intro w S o args hsz hwo hro hargs
 have hrun : (callFunc f args).run c.g.P w = .ok (.enter f args) w := by
  have hp : (program).run c.g.P w = .ok c.g.P w := rfl
  simp only [callFunc, Sem.run_bind, hp, Result.andThen_ok, hf, hb, Option.isNone_some]
  have : (fn.name == "runtime.NumGoroutine") = false := by simpa using hnm
  rw [this]
  rfl
 unfold Gives
 rw [hrun]
 have hmi : ∀ b l, o b = some l -> l.r < as.length := fun b l hbl => by rw [(hro b l hbl).1]; exact (hro b l hbl).2
 have wo : Wo c.g c.nt w S o := ⟨fun b l hbl => by have := hmi b l hbl; omega, hwo.inj, hwo.lt, hwo.sh, hwo.gl, hwo.ngs⟩
 have fr : Fr w S o w S o := ⟨rfl, rfl, rfl, Nat.le_refl _, fun b _ h => ⟨h, rfl⟩, fun _ h => h, fun _ h => .inl h, fun _ _ => .of_eq rfl⟩
 have s0 : St c w S o args (argsE as) { tmps := args ++ Array.replicate (fn.ntmps - args.size) Go.undef, defers := [] } w S o := by
  have hsz0 : (args ++ Array.replicate (fn.ntmps - args.size) Go.undef).size = c.nt := by simp; omega
  have htv : ∀ r, tv args { tmps := args ++ Array.replicate (fn.ntmps - args.size) Go.undef, defers := [] } r = (args ++ Array.replicate (fn.ntmps - args.size) Go.undef).getD r Go.undef := fun r => by
   unfold tv
   split
   ·rfl
   ·rename_i hr
    simp only at hr
    simp [Array.getD_eq_getD_getElem?, show args.size <= r by omega, show ¬ r < fn.ntmps by omega]
  refine ⟨wo, fr, fun r => ?_, ?_, ?_, rfl, fun i hi => ?_⟩
  ·rw [htv]
   unfold argsE
   by_cases hr : r < args.size
   ·have h1 : args[r]? = some args[r] := Array.getElem?_eq_getElem hr
    have h2 : as[r]? = some (as[r]'(by omega)) := List.getElem?_eq_getElem (by omega)
    have h3 := hargs r _ _ h1 h2
    simp only [Array.getD_eq_getD_getElem?, List.getD_eq_getElem?_getD, Array.getElem?_append_left hr, h1, h2, Option.getD_some]
    exact h3
   ·rw [List.getD_eq_getElem?_getD, List.getElem?_eq_none (by omega)]
    exact .inl (.inl rfl)
  ·unfold argsE
   rw [List.getD_eq_getElem?_getD, List.getElem?_eq_none hl]
   rfl
  ·exact .inl ⟨by omega, hsz0⟩
  ·rename_i i2
   rw [htv]
   rw [hm] at hi
   have hi' : i = i2 := by simpa [eq_comm] using hi
   subst hi'
   have := hk.2
   simp only [Array.getD_eq_getD_getElem?]
   rw [Array.getElem?_append_left (by omega)]
 have hh : Held c [] o := fun b l hbl => ⟨by have := hmi b l hbl; omega, .inl (by rw [(hro b l hbl).1]; exact hk.1)⟩
 have main := h w S o args _ w S o s0 hh
 refine Calls.mono (calls_of_wp hf hb (R := fun en w' => match en with
  | .returned v => ∃ a, EndedG c w S o args a (endM i Post) v w'
  | _ => False) (wp_mono main fun x a1 w1 hx => ?_)) fun en w' hen => ?_
 ·have fin : ∀ {K : Env -> Prop}, (∀ e, K e -> retG c fn.results (endM i Post) e) -> Then c w S o args [] K a1 w1 -> a1.defers = [] /\ ∃ v, (results fn a1.tmps).run c.g.P w1 = .ok v w1 /\ ∃ a, EndedG c w S o args a (endM i Post) v w1 := by
   rintro K hK ⟨e1, S1, o1, h1, h2, h3⟩
   obtain ⟨v, h4, h5⟩ := retG_sound h2 h3.free (fun r _ => h2.sz.plain (by omega) _) (hK e1 h1) rfl
   exact ⟨h2.df, v, h4, a1, h5⟩
  cases x with
  | normal => exact fin (fun _ h => h) hx
  | ret => exact fin (fun _ h => h) hx
  | exit id => obtain ⟨_, _, _, h1, _⟩ := hx; exact h1.elim
  | goto l => exact hx.elim
  | panic ch => exact hx.elim
  | outgrown => exact hx.elim
 ·cases en with
  | panicked ch => exact hen.elim
  | outgrown => exact hen.elim
  | returned v =>
   obtain ⟨a1, y, e1, S1, o1, ⟨hny, hny2, hpost⟩, s1, ry⟩ := hen
   have hin : ∀ b, o1 b = none -> retO c.nt as.length (some i) o1 b = none := fun b hb => by simp [retO, hb]
   have hto : ∀ b q, o1 b = some ⟨i, q⟩ -> retO c.nt as.length (some i) o1 b = some ⟨i, q⟩ := fun b q hb => by
    have := hk.2
    unfold retO
    rw [hb]
    simp only
    rw [if_neg (by omega), if_pos trivial]
   have wo2 : Wo c.g as.length w' S1 (retO c.nt as.length (some i) o1) := by
    refine ⟨fun b l hbl => ?_, fun b b' l h1 h2 => ?_, fun b l hbl => ?_, fun b hb => ⟨hin b (s1.wo.sh b hb).1, (s1.wo.sh b hb).2⟩, s1.wo.gl, s1.wo.ngs⟩
    ·rcases retO_eq hbl with ⟨p, _, rfl⟩ | ⟨_, h1, _⟩
     ·exact Nat.le_refl _
     ·cases h1; exact Nat.le_of_lt hk.2
    ·rcases retO_eq h1 with ⟨p, h3, rfl⟩ | ⟨h3, h4, _⟩ <;> rcases retO_eq h2 with ⟨p', h5, h6⟩ | ⟨h5, h6, _⟩
     ·cases h6
      exact s1.wo.inj _ _ _ h3 h5
     ·cases h6; exact absurd hk.2 (Nat.lt_irrefl _)
     ·rw [h6] at h4
      cases h4
      exact absurd hk.2 (Nat.lt_irrefl _)
     ·exact s1.wo.inj _ _ _ h3 h5
    ·rcases retO_eq hbl with ⟨p, h3, _⟩ | ⟨h3, _⟩ <;> exact s1.wo.lt _ _ h3
   have fr2 : Fr w S o w' S1 (retO c.nt as.length (some i) o1) :=
    ⟨s1.fr.os, s1.fr.tape, s1.fr.output, s1.fr.size, fun b h1 h2 => ⟨hin b (s1.fr.old b h1 h2).1, (s1.fr.old b h1 h2).2⟩, s1.fr.grow, s1.fr.only, s1.fr.shp⟩
   have ry2 : RepV w'.heap S1 (retO c.nt as.length (some i) o1) ⟨as.length, []⟩ v y := by
    have := ry.move (S' := S1) (h' := w'.heap) (o' := retO c.nt as.length (some i) o1) (fun _ => true) (fun b hb => ⟨hb, rfl⟩) (fun b l hb hk => by cases hk) ⟨as.length, []⟩ fun b q hb => ⟨by
     simp only [Loc.ext, List.nil_append] at hb ⊢
     simp [retO, hb], rfl⟩
    rwa [killP_noRef _ _ hny] at this
   have own2 : ∀ b l, retO c.nt as.length (some i) o1 b = some l -> l.r = as.length \/ l.r = i := fun b l hbl => by
    rcases retO_eq hbl with ⟨p, _, rfl⟩ | ⟨_, h1, _⟩
    ·exact .inl rfl
    ·cases h1; exact .inr rfl
   refine ⟨y, _, S1, _, hpost, wo2, fr2, own2, ry2, hny, fun u hu => ⟨?_, hny2⟩⟩
   have r1 := s1.env i
   rw [s1.mu i (by rw [hm]; simp)] at r1
   have hu' : args.getD i Go.undef = u := by simp [Array.getD_eq_getD_getElem?, hu]
   rw [hu'] at r1
   have := r1.move (S' := S1) (h' := w'.heap) (o' := retO c.nt as.length (some i) o1) (fun _ => true) (fun b hb => ⟨hb, rfl⟩) (fun b l hb hk => by cases hk) ⟨i, []⟩ fun b q hb => ⟨by
    simp only [Loc.ext, List.nil_append] at hb ⊢
    exact hto b q hb, rfl⟩
   rwa [killP_noRef _ _ hny2] at this
theorem VMut.of {f : FuncId} {fn : Func} (c : Ctx) (hf : c.g.P.funcs[f]? = some fn) (hb : fn.body.isSome = true) (hnm : (fn.name == "runtime.NumGoroutine") = false) (hnt : c.nt = fn.ntmps) {xs : List AVal} {i : Nat} (hm : c.muts = [i])
  (hk : c.keep.contains i = true /\ i < xs.length) (hl : Nat.ble xs.length c.nt = true) {Post : AVal -> AVal -> Prop}
  (h : VW c (Func.code fn) (mkE (numbered 0 xs)) fun x e => match x with
   | .exit _ => False
   | _ => retG c fn.results (endM i Post) e) : VMut c.g f xs i Post := by
 obtain ⟨code, hc⟩ := Option.isSome_iff_exists.1 hb
 refine VMut.intro c hf hc (by simpa using hnm) hnt hm hk (Nat.le_of_ble_eq_true hl) ?_
 rw [argsE_eq]
 have : Func.code fn = code := by simp [Func.code, hc]
 rw [<- this]
 exact h
end Go.VS
/- VS: the answer of a function that writes through a pointer to an element of a list, from its code. -/
set_option linter.unusedVariables false
set_option linter.unusedSimpArgs false
namespace Go.VS
variable {c : Ctx} {w0 : World} {S0 : Nat -> Prop} {o0 : Own} {cargs : Array Value} {e : Env} {a : Act} {w : World} {S : Nat -> Prop} {ow : Own}
def elemE (as : List AVal) (i G k sz : Nat) (xs : List AVal) : Env := fun r => if r = G then .lst true sz xs else if r = i then .adr ⟨G, []⟩ k [] (k * sz) else as.getD r .undef
def endE (G sz : Nat) (Post : AVal -> List AVal -> Prop) (y : AVal) (e : Env) : Prop := noRef y = true /\ ∃ xs', e G = .lst true sz xs' /\ noRefs xs' = true /\ Post y xs'
def toG (n : Nat) (o : Own) : Own := fun b => match o b with
 | none => none
 | some m => some ⟨n, m.p⟩
theorem toG_of {n b : Nat} {o : Own} {m : Loc} (h : o b = some m) : toG n o b = some ⟨n, m.p⟩ := by simp [toG, h]
theorem toG_eq {n b : Nat} {o : Own} {m : Loc} (h : toG n o b = some m) : ∃ m', o b = some m' /\ m = ⟨n, m'.p⟩ := by
 unfold toG at h
 split at h
 ·cases h
 ·rename_i m' hm
  cases h
  exact ⟨m', hm, rfl⟩
def frG (nt G n : Nat) (o : Own) : Own := fun b => match o b with
 | none => none
 | some m => if m.r = nt then some ⟨n, m.p⟩ else if m.r = G then some ⟨n + 1, m.p⟩ else none
theorem frG_eq {nt G n b : Nat} {o : Own} {m : Loc} (h : frG nt G n o b = some m) : (∃ p, o b = some ⟨nt, p⟩ /\ m = ⟨n, p⟩) \/ (∃ p, o b = some ⟨G, p⟩ /\ m = ⟨n + 1, p⟩ /\ G ≠ nt) := by
 unfold frG at h
 split at h
 ·cases h
 ·rename_i m' hm'
  split at h
  ·rename_i hn
   cases h
   exact .inl ⟨m'.p, by rw [hm', <- hn], rfl⟩
  ·rename_i hn
   split at h
   ·rename_i hg
    cases h
    exact .inr ⟨m'.p, by rw [hm', <- hg], rfl, fun h => hn (hg.trans h)⟩
   ·cases h
theorem VElem.intro {f : FuncId} {fn : Func} {code : Code} (c : Ctx) (hf : c.g.P.funcs[f]? = some fn) (hb : fn.body = some code) (hnm : fn.name ≠ "runtime.NumGoroutine") (hnt : c.nt = fn.ntmps + 1) {as : List AVal} {i k sz : Nat} {xs : List AVal} (hm : c.muts = [fn.ntmps])
  (hk : c.keep.contains fn.ntmps = true) (hl : as.length <= fn.ntmps) (hres : ∀ r ∈ fn.results.toList, slotR r ≠ fn.ntmps) {Post : AVal -> List AVal -> Prop}
  (h : VW c code (elemE as i fn.ntmps k sz xs) fun x e => match x with
   | .exit _ => False
   | _ => retG c fn.results (endE fn.ntmps sz Post) e) : VElem c.g f as i k sz xs Post := by
 intro w S o args vG hsz hil hwo hro hvG hnx hrG hri hargs
 have hrun : (callFunc f args).run c.g.P w = .ok (.enter f args) w := by
  have hp : (program).run c.g.P w = .ok c.g.P w := rfl
  simp only [callFunc, Sem.run_bind, hp, Result.andThen_ok, hf, hb, Option.isNone_some]
  have : (fn.name == "runtime.NumGoroutine") = false := by simpa using hnm
  rw [this]
  rfl
 unfold Gives
 rw [hrun]
 let tm : Array Value := args ++ Array.replicate (fn.ntmps - args.size) Go.undef
 have htm : tm.size = fn.ntmps := by simp [tm]; omega
 let ca : Array Value := tm ++ #[vG, Go.undef]
 have hca : ca.size = c.nt + 1 := by simp [ca, htm]; omega
 have hcaG : ca.getD fn.ntmps Go.undef = vG := by
  simp [ca, Array.getD_eq_getD_getElem?, Array.getElem?_append, htm]
 have hcan : ca.getD c.nt Go.undef = Go.undef := by
  rw [hnt]
  simp [ca, Array.getD_eq_getD_getElem?, Array.getElem?_append, htm]
 have htvG : tv ca { tmps := tm, defers := [] } fn.ntmps = vG := by
  unfold tv
  rw [if_neg (by simp [htm]), hcaG]
 have wo : Wo c.g c.nt w S (toG fn.ntmps o) := ⟨fun b l hbl => by obtain ⟨m', _, rfl⟩ := toG_eq hbl; simp only; omega, fun b b' l h1 h2 => by
   obtain ⟨m1, h3, h4⟩ := toG_eq h1
   obtain ⟨m2, h5, h6⟩ := toG_eq h2
   have h7 := hro b m1 h3
   have h8 := hro b' m2 h5
   rw [h4] at h6
   simp only [Loc.mk.injEq, true_and] at h6
   have : m1 = m2 := by cases m1; cases m2; simp_all
   exact hwo.inj _ _ _ h3 (this ▸ h5), fun b l hbl => by obtain ⟨m', h1, _⟩ := toG_eq hbl; exact hwo.lt _ _ h1, fun b hb' => ⟨by simp [toG, (hwo.sh b hb').1], (hwo.sh b hb').2⟩, hwo.gl, hwo.ngs⟩
 have fr : Fr w S (toG fn.ntmps o) w S (toG fn.ntmps o) := ⟨rfl, rfl, rfl, Nat.le_refl _, fun b _ h => ⟨h, rfl⟩, fun _ h => h, fun _ h => .inl h, fun _ _ => .of_eq rfl⟩
 have s0 : St c w S (toG fn.ntmps o) ca (elemE as i fn.ntmps k sz xs) { tmps := tm, defers := [] } w S (toG fn.ntmps o) := by
  refine ⟨wo, fr, fun r => ?_, ?_, .inr ⟨hca, hcan, by simp only [htm, hnt], by rw [hm]; simp [htm], ?_⟩, rfl, fun i' hi' => ?_⟩
  ·unfold elemE
   split
   ·rename_i hr
    subst hr
    rw [htvG]
    have h1 := hrG.moveL (S' := S) (h' := w.heap) (o' := toG fn.ntmps o) (l' := ⟨fn.ntmps, []⟩) hnx (fun b hb => ⟨hb, rfl⟩) fun b q hq hb => ⟨by
     have := toG_of (n := fn.ntmps) hb
     simpa [Loc.ext] using this, rfl⟩
    obtain ⟨b, n, m, rfl⟩ := hvG
    exact .mk rfl rfl h1
   ·rename_i hr
    by_cases hlt : r < fn.ntmps
    ·have htv : tv ca { tmps := tm, defers := [] } r = tm.getD r Go.undef := by
      unfold tv
      rw [if_pos (by simp only [htm]; exact hlt)]
     rw [htv]
     by_cases hra : r < args.size
     ·have h1 : args[r]? = some args[r] := Array.getElem?_eq_getElem hra
      have h0 : tm.getD r Go.undef = args[r] := by
       simp [tm, Array.getD_eq_getD_getElem?, Array.getElem?_append_left hra, h1]
      rw [h0]
      split
      ·rename_i hri'
       subst hri'
       have h2 := hri _ h1
       obtain ⟨b', cur', t', fr', hv', hb', ho'⟩ := h2.adr_inv
       simp only [List.cons.injEq, and_true] at hv'
       rw [hv']
       refine .mk rfl rfl (.adr hb' ?_)
       have := toG_of (n := fn.ntmps) ho'
       exact this
      ·rename_i hne
       have h2 : as[r]? = some (as[r]'(by omega)) := List.getElem?_eq_getElem (by omega)
       rw [List.getD_eq_getElem?_getD, h2, Option.getD_some]
       exact hargs r _ _ hne h1 h2 _ _
     ·rw [if_neg (by omega), List.getD_eq_getElem?_getD, List.getElem?_eq_none (by omega)]
      exact .inl (.inl rfl)
    ·rw [if_neg (by omega), List.getD_eq_getElem?_getD, List.getElem?_eq_none (by omega)]
     exact .inl (.inl rfl)
  ·unfold elemE
   rw [if_neg (by omega), if_neg (by omega), List.getD_eq_getElem?_getD, List.getElem?_eq_none (by omega)]
   rfl
  ·simp only [htm]
   rw [hcaG]
   obtain ⟨b, n, m, rfl⟩ := hvG
   exact ⟨_, _, _, rfl⟩
  ·rw [hm] at hi'
   obtain rfl : i' = fn.ntmps := by simpa using hi'
   rw [htvG, hcaG]
 have hh : Held c [] (toG fn.ntmps o) := fun b l hbl => by
  obtain ⟨m', _, rfl⟩ := toG_eq hbl
  exact ⟨by simp only; omega, .inl hk⟩
 have main := h w S (toG fn.ntmps o) ca _ w S (toG fn.ntmps o) s0 hh
 have hargs0 : (args ++ Array.replicate (fn.ntmps - args.size) Go.undef) = tm := rfl
 refine Calls.mono (calls_of_wp hf hb (R := fun en w' => match en with
  | .returned v => ∃ a, EndedG c w S (toG fn.ntmps o) ca a (endE fn.ntmps sz Post) v w'
  | _ => False) (wp_mono main fun x a1 w1 hx => ?_)) fun en w' hen => ?_
 ·have fin : ∀ {K : Env -> Prop}, (∀ e, K e -> retG c fn.results (endE fn.ntmps sz Post) e) -> Then c w S (toG fn.ntmps o) ca [] K a1 w1 -> a1.defers = [] /\ ∃ v, (results fn a1.tmps).run c.g.P w1 = .ok v w1 /\ ∃ a, EndedG c w S (toG fn.ntmps o) ca a (endE fn.ntmps sz Post) v w1 := by
   rintro K hK ⟨e1, S1, o1, h1, h2, h3⟩
   have hts : ∀ r ∈ fn.results.toList, tv ca a1 (slotR r) = a1.tmps.getD (slotR r) Go.undef := fun r hr => by
    have h9 := h2.tvEval (t := slotR r) (by
     simp only [constOk, Bool.not_eq_true', Bool.and_eq_false_iff, beq_eq_false_iff_ne, hm]
     exact .inr (by simpa using hres r hr))
    exact h9
   obtain ⟨v, h4, h5⟩ := retG_sound h2 h3.free hts (hK e1 h1) rfl
   exact ⟨h2.df, v, h4, a1, h5⟩
  cases x with
  | normal => exact fin (fun _ h => h) hx
  | ret => exact fin (fun _ h => h) hx
  | exit id => obtain ⟨_, _, _, h1, _⟩ := hx; exact h1.elim
  | goto l => exact hx.elim
  | panic ch => exact hx.elim
  | outgrown => exact hx.elim
 ·cases en with
  | panicked ch => exact hen.elim
  | outgrown => exact hen.elim
  | returned v =>
   obtain ⟨a1, y, e1, S1, o1, ⟨hny, xs', hxs, hnx', hpost⟩, s1, ry⟩ := hen
   have hin : ∀ b, o1 b = none -> frG c.nt fn.ntmps as.length o1 b = none := fun b hb => by simp [frG, hb]
   have hng : fn.ntmps ≠ c.nt := by omega
   refine ⟨y, xs', S1, frG c.nt fn.ntmps as.length o1, hpost, ?_, ?_, fun b l hbl => ?_, ?_, hny, ?_, hnx'⟩
   ·refine ⟨fun b l hbl => ?_, fun b b' l h1 h2 => ?_, fun b l hbl => ?_, fun b hb => ⟨hin b (s1.wo.sh b hb).1, (s1.wo.sh b hb).2⟩, s1.wo.gl, s1.wo.ngs⟩
    ·rcases frG_eq hbl with ⟨p, _, rfl⟩ | ⟨p, _, rfl, _⟩
     ·exact Nat.le_succ _
     ·exact Nat.le_refl _
    ·rcases frG_eq h1 with ⟨p, h3, rfl⟩ | ⟨p, h3, rfl, _⟩ <;> rcases frG_eq h2 with ⟨p', h5, h6⟩ | ⟨p', h5, h6, _⟩
     ·cases h6
      exact s1.wo.inj _ _ _ h3 h5
     ·simp at h6
     ·simp at h6
     ·cases h6
      exact s1.wo.inj _ _ _ h3 h5
    ·rcases frG_eq hbl with ⟨p, h3, _⟩ | ⟨p, h3, _⟩ <;> exact s1.wo.lt _ _ h3
   ·refine ⟨s1.fr.os, s1.fr.tape, s1.fr.output, s1.fr.size, fun b h1 h2 => ?_, s1.fr.grow, fun b hb => ?_, s1.fr.shp⟩
    ·have h3 := s1.fr.old b h1 (by simp [toG, h2])
     exact ⟨hin b h3.1, h3.2⟩
    ·rcases s1.fr.only b hb with h1 | h1 | h1
     ·exact .inl h1
     ·exact .inr (.inl h1)
     ·exact .inr (.inr fun h2 => h1 (by simp [toG, h2]))
   ·rcases frG_eq hbl with ⟨p, _, rfl⟩ | ⟨p, _, rfl, _⟩
    ·exact .inl rfl
    ·exact .inr rfl
   ·have := ry.move (S' := S1) (h' := w'.heap) (o' := frG c.nt fn.ntmps as.length o1) (fun _ => true) (fun b hb => ⟨hb, rfl⟩) (fun b l hb hk => by cases hk) ⟨as.length, []⟩ fun b q hb => ⟨by
     simp only [Loc.ext, List.nil_append] at hb ⊢
     simp [frG, hb], rfl⟩
    rwa [killP_noRef _ _ hny] at this
   ·have r1 := s1.env fn.ntmps
    rw [hxs, s1.mu fn.ntmps (by rw [hm]; simp), hcaG] at r1
    refine (r1.one (by simp) rfl (by simp)).moveL hnx' (fun b hb => ⟨hb, rfl⟩) fun b q hq hb => ⟨?_, rfl⟩
    simp only [Loc.ext, List.nil_append] at hb ⊢
    simp [frG, hb, hng]
end Go.VS
/- VS: functions that take a list, from their code. -/
set_option linter.unusedVariables false
set_option linter.unusedSimpArgs false
namespace Go.VS
theorem VTake.intro {f : FuncId} {fn : Func} {code : Code} (c : Ctx) (hf : c.g.P.funcs[f]? = some fn) (hb : fn.body = some code) (hnm : fn.name ≠ "runtime.NumGoroutine") (hnt : c.nt = fn.ntmps) {as : List AVal} {i sz : Nat} {xs : List AVal} (hnx : noRefs xs = true) (hm : c.muts = [])
  (hk : c.keep.contains i = true /\ i < as.length) (hl : as.length <= c.nt) {Post : AVal -> Prop}
  (h : VW c code (argsE (as.set i (.lst true sz xs))) fun x e => match x with
   | .exit _ => False
   | _ => retG c fn.results (endM i (fun y _ => Post y)) e) : VTake c.g f as i sz xs Post := by
 intro w S o args hsz hi hwo hro0 harg hoth
 have hro : ∀ b l, o b = some l -> l.r = i /\ i < as.length := fun b l hbl => ⟨hro0 b l hbl, hi⟩
 have hargs : ∀ (j : Nat) (v : Value) (x : AVal), args[j]? = some v -> (as.set i (.lst true sz xs))[j]? = some x -> RepV w.heap S o ⟨j, []⟩ v x := fun j v x h1 h2 => by
  by_cases hj : j = i
  ·subst hj
   rw [List.getElem?_set_self hi] at h2
   cases h2
   have r1 := harg v h1
   refine .mk ?_ rfl r1
   rcases r1.lst_inv with ⟨h9, _⟩ | ⟨b, cap, cur, e, fr, h9, _⟩ <;> (simp only [List.cons.injEq, and_true] at h9; subst h9; rfl)
  ·rw [List.getElem?_set_ne (Ne.symm hj)] at h2
   exact hoth j v x hj h1 h2 o _
 have hrun : (callFunc f args).run c.g.P w = .ok (.enter f args) w := by
  have hp : (program).run c.g.P w = .ok c.g.P w := rfl
  simp only [callFunc, Sem.run_bind, hp, Result.andThen_ok, hf, hb, Option.isNone_some]
  have : (fn.name == "runtime.NumGoroutine") = false := by simpa using hnm
  rw [this]
  rfl
 unfold Gives
 rw [hrun]
 have hmi : ∀ b l, o b = some l -> l.r < as.length := fun b l hbl => by rw [(hro b l hbl).1]; exact (hro b l hbl).2
 have wo : Wo c.g c.nt w S o := ⟨fun b l hbl => by have := hmi b l hbl; omega, hwo.inj, hwo.lt, hwo.sh, hwo.gl, hwo.ngs⟩
 have fr : Fr w S o w S o := ⟨rfl, rfl, rfl, Nat.le_refl _, fun b _ h => ⟨h, rfl⟩, fun _ h => h, fun _ h => .inl h, fun _ _ => .of_eq rfl⟩
 have s0 : St c w S o args (argsE (as.set i (.lst true sz xs))) { tmps := args ++ Array.replicate (fn.ntmps - args.size) Go.undef, defers := [] } w S o := by
  have hsz0 : (args ++ Array.replicate (fn.ntmps - args.size) Go.undef).size = c.nt := by simp; omega
  have htv : ∀ r, tv args { tmps := args ++ Array.replicate (fn.ntmps - args.size) Go.undef, defers := [] } r = (args ++ Array.replicate (fn.ntmps - args.size) Go.undef).getD r Go.undef := fun r => by
   unfold tv
   split
   ·rfl
   ·rename_i hr
    simp only at hr
    simp [Array.getD_eq_getD_getElem?, show args.size <= r by omega, show ¬ r < fn.ntmps by omega]
  refine ⟨wo, fr, fun r => ?_, ?_, ?_, rfl, fun i hi => ?_⟩
  ·rw [htv]
   unfold argsE
   by_cases hr : r < args.size
   ·have h1 : args[r]? = some args[r] := Array.getElem?_eq_getElem hr
    have h2 : (as.set i (.lst true sz xs))[r]? = some ((as.set i (.lst true sz xs))[r]'(by rw [List.length_set]; omega)) := List.getElem?_eq_getElem (by rw [List.length_set]; omega)
    have h3 := hargs r _ _ h1 h2
    simp only [Array.getD_eq_getD_getElem?, List.getD_eq_getElem?_getD, Array.getElem?_append_left hr, h1, h2, Option.getD_some]
    exact h3
   ·rw [List.getD_eq_getElem?_getD, List.getElem?_eq_none (by rw [List.length_set]; omega)]
    exact .inl (.inl rfl)
  ·unfold argsE
   rw [List.getD_eq_getElem?_getD, List.getElem?_eq_none (by rw [List.length_set]; exact hl)]
   rfl
  ·exact .inl ⟨by omega, hsz0⟩
  ·rw [hm] at hi
   simp at hi
 have hh : Held c [] o := fun b l hbl => ⟨by have := hmi b l hbl; omega, .inl (by rw [(hro b l hbl).1]; exact hk.1)⟩
 have main := h w S o args _ w S o s0 hh
 refine Calls.mono (calls_of_wp hf hb (R := fun en w' => match en with
  | .returned v => ∃ a, EndedG c w S o args a (endM i (fun y _ => Post y)) v w'
  | _ => False) (wp_mono main fun x a1 w1 hx => ?_)) fun en w' hen => ?_
 ·have fin : ∀ {K : Env -> Prop}, (∀ e, K e -> retG c fn.results (endM i (fun y _ => Post y)) e) -> Then c w S o args [] K a1 w1 -> a1.defers = [] /\ ∃ v, (results fn a1.tmps).run c.g.P w1 = .ok v w1 /\ ∃ a, EndedG c w S o args a (endM i (fun y _ => Post y)) v w1 := by
   rintro K hK ⟨e1, S1, o1, h1, h2, h3⟩
   obtain ⟨v, h4, h5⟩ := retG_sound h2 h3.free (fun r _ => h2.sz.plain (by omega) _) (hK e1 h1) rfl
   exact ⟨h2.df, v, h4, a1, h5⟩
  cases x with
  | normal => exact fin (fun _ h => h) hx
  | ret => exact fin (fun _ h => h) hx
  | exit id => obtain ⟨_, _, _, h1, _⟩ := hx; exact h1.elim
  | goto l => exact hx.elim
  | panic ch => exact hx.elim
  | outgrown => exact hx.elim
 ·cases en with
  | panicked ch => exact hen.elim
  | outgrown => exact hen.elim
  | returned v =>
   obtain ⟨a1, y, e1, S1, o1, ⟨hny, hny2, hpost⟩, s1, ry⟩ := hen
   have hin : ∀ b, o1 b = none -> retO c.nt as.length none o1 b = none := fun b hb => by simp [retO, hb]
   have wo2 : Wo c.g as.length w' S1 (retO c.nt as.length none o1) := by
    refine ⟨fun b l hbl => ?_, fun b b' l h1 h2 => ?_, fun b l hbl => ?_, fun b hb => ⟨hin b (s1.wo.sh b hb).1, (s1.wo.sh b hb).2⟩, s1.wo.gl, s1.wo.ngs⟩
    ·rcases retO_eq hbl with ⟨p, _, rfl⟩ | ⟨_, h1, _⟩
     ·exact Nat.le_refl _
     ·cases h1
    ·rcases retO_eq h1 with ⟨p, h3, rfl⟩ | ⟨_, h4, _⟩
     ·rcases retO_eq h2 with ⟨p', h5, h6⟩ | ⟨_, h6, _⟩
      ·cases h6
       exact s1.wo.inj _ _ _ h3 h5
      ·cases h6
     ·cases h4
    ·rcases retO_eq hbl with ⟨p, h3, _⟩ | ⟨h3, _⟩ <;> exact s1.wo.lt _ _ h3
   have fr2 : Fr w S o w' S1 (retO c.nt as.length none o1) :=
    ⟨s1.fr.os, s1.fr.tape, s1.fr.output, s1.fr.size, fun b h1 h2 => ⟨hin b (s1.fr.old b h1 h2).1, (s1.fr.old b h1 h2).2⟩, s1.fr.grow, s1.fr.only, s1.fr.shp⟩
   have ry2 : RepV w'.heap S1 (retO c.nt as.length none o1) ⟨as.length, []⟩ v y := by
    have := ry.move (S' := S1) (h' := w'.heap) (o' := retO c.nt as.length none o1) (fun _ => true) (fun b hb => ⟨hb, rfl⟩) (fun b l hb hk => by cases hk) ⟨as.length, []⟩ fun b q hb => ⟨by
     simp only [Loc.ext, List.nil_append] at hb ⊢
     simp [retO, hb], rfl⟩
    rwa [killP_noRef _ _ hny] at this
   have own2 : ∀ b l, retO c.nt as.length none o1 b = some l -> l.r = as.length := fun b l hbl => by
    rcases retO_eq hbl with ⟨p, _, rfl⟩ | ⟨_, h1, _⟩
    ·rfl
    ·cases h1
   exact ⟨y, S1, _, hpost, wo2, fr2, own2, ry2, hny⟩
theorem VTake.of {f : FuncId} {fn : Func} (c : Ctx) (hf : c.g.P.funcs[f]? = some fn) (hb : fn.body.isSome = true) (hnm : (fn.name == "runtime.NumGoroutine") = false) (hnt : c.nt = fn.ntmps) {as : List AVal} {i sz : Nat} {xs : List AVal} (hnx : noRefs xs = true) (hm : c.muts = [])
  (hk : c.keep.contains i = true /\ i < as.length) (hl : Nat.ble as.length c.nt = true) {Post : AVal -> Prop}
  (h : VW c (Func.code fn) (mkE (numbered 0 (as.set i (.lst true sz xs)))) fun x e => match x with
   | .exit _ => False
   | _ => retG c fn.results (endM i (fun y _ => Post y)) e) : VTake c.g f as i sz xs Post := by
 obtain ⟨code, hc⟩ := Option.isSome_iff_exists.1 hb
 refine VTake.intro c hf hc (by simpa using hnm) hnt hnx hm hk (Nat.le_of_ble_eq_true hl) ?_
 rw [argsE_eq]
 have : Func.code fn = code := by simp [Func.code, hc]
 rw [<- this]
 exact h
end Go.VS
/- VS, twenty-eighth part: regions whose order is drawn. -/
set_option linter.unusedVariables false
set_option linter.unusedSimpArgs false
namespace Go.VS
variable {c : Ctx} {w0 : World} {S0 : Nat -> Prop} {o0 : Own} {cargs : Array Value} {e : Env} {a : Act} {w : World} {S : Nat -> Prop} {ow : Own}
mutual
inductive Plan where
 | done
 | take (i : Nat) (p : Plan)
 | all (ps : Plans)
 | last (i : Nat)
inductive Plans where
 | nil
 | cons (i : Nat) (p : Plan) (ps : Plans)
end
def Plans.firsts : Plans -> List Nat
 | .nil => []
 | .cons i _ ps => i :: ps.firsts
def waits (ops : Array Oper) (z i : Nat) : Bool := match ops[z]? with
 | some o => o.after.any fun e => Region.binds .any e && e.on == i
 | none => false
def lateOf (ops : Array Oper) : Option Nat := if (List.range (ops.size - 1)).all (waits ops (ops.size - 1)) = true then some (ops.size - 1) else none
mutual
def planOk (c : Ctx) (qt : Bool) (ops : Array Oper) (used : List Nat) (listed : Array Bool) : Nat -> Plan -> Bool
 | _, .done => (Region.ready .any ops listed).isEmpty
 | 0, _ => false
 | n + 1, .take i p => match ops[i]? with
  | some o => pureOp o.op && (qt || !readsHeap c.g.P o.op) && Region.noSelect ops && Region.free .any ops listed i && (Region.ready .any ops listed).contains i && dstOk c used o.dst && constsOk c o.op &&
    planOk c qt ops (usedBy used o.dst) (listed.setIfInBounds i true) n p
  | none => false
 | n + 1, .last i => decide (lateOf ops = some i) && decide (Region.ready .any ops listed = [i]) && (Region.ready .any ops (listed.setIfInBounds i true)).isEmpty && (match ops[i]? with
  | some o => dstOk c used o.dst && constsOk c o.op
  | none => false)
 | n + 1, .all ps => !ps.firsts.isEmpty && decide (Region.ready .any ops listed = ps.firsts) && plansOk c qt ops used listed n ps
def plansOk (c : Ctx) (qt : Bool) (ops : Array Oper) (used : List Nat) (listed : Array Bool) : Nat -> Plans -> Bool
 | _, .nil => true
 | n, .cons i p ps => (match ops[i]? with
  | some o => dstOk c used o.dst && constsOk c o.op && planOk c qt ops (usedBy used o.dst) (listed.setIfInBounds i true) n p
  | none => false) && plansOk c qt ops used listed n ps
end
mutual
def regP (c : Ctx) (qt : Bool) (rid : Nat) (ops : Array Oper) : Plan -> Env -> (Env -> Prop) -> Prop
 | .done, e, K => K e
 | .take i p, e, K => match ops[i]? with
  | some o => stepK c qt rid ops o e fun e1 => regP c qt rid ops p e1 K
  | none => False
 | .last i, e, K => match ops[i]? with
  | some o => stepK c false rid ops o e K
  | none => False
 | .all ps, e, K => regPs c qt rid ops ps e K
def regPs (c : Ctx) (qt : Bool) (rid : Nat) (ops : Array Oper) : Plans -> Env -> (Env -> Prop) -> Prop
 | .nil, e, K => True
 | .cons i p ps, e, K => (match ops[i]? with
  | some o => stepK c qt rid ops o e fun e1 => regP c qt rid ops p e1 K
  | none => False) /\ regPs c qt rid ops ps e K
end
theorem Quiet.trans {w w1 w2 : World} (h : Quiet w w1) (k : Quiet w1 w2) : Quiet w w2 := fun b hb => by
 have h1 := h b hb
 have h2 : b < w1.heap.size := by
  rw [Array.getElem?_eq_getElem hb] at h1
  exact (Array.getElem?_eq_some_iff.1 h1).1
 exact (k b h2).trans h1
def wpAnyZ (P : Program) (ops : Array Oper) (Q : Exit -> Act -> World -> Prop) (S : World -> Prop) : Nat -> Array Bool -> Act -> World -> Prop
 | 0, listed, a, w => Region.ready .any ops listed = [] /\ Q .normal a w
 | fuel + 1, listed, a, w =>
  (Region.ready .any ops listed = [] -> Q .normal a w) ∧
  ∀ i ∈ Region.ready .any ops listed, wpOp P ops Q i (fun a' w' => (lateOf ops ≠ some i -> S w') /\ wpAnyZ P ops Q S fuel (listed.setIfInBounds i true) a' w') a w
theorem wpAny_of_Z {P : Program} {ops : Array Oper} {Q : Exit -> Act -> World -> Prop} {S : World -> Prop} : ∀ (fuel : Nat) (listed : Array Bool) (a : Act) (w : World), wpAnyZ P ops Q S fuel listed a w -> wpAny P .any ops Q fuel listed a w
 | 0, _, _, _, h => h
 | fuel + 1, _, _, _, h => ⟨h.1, fun i hi => wpOp_mono (fun a' w' h' => wpAny_of_Z fuel _ a' w' h'.2) (h.2 i hi)⟩
theorem wpAnyZ_weak {P : Program} {ops : Array Oper} {Q : Exit -> Act -> World -> Prop} {Z Z' : World -> Prop} (hz : ∀ w, Z' w -> Z w) :
  ∀ (fuel : Nat) (listed : Array Bool) (a : Act) (w : World), wpAnyZ P ops Q Z' fuel listed a w -> wpAnyZ P ops Q Z fuel listed a w
 | 0, _, _, _, h => h
 | fuel + 1, _, _, _, h => ⟨h.1, fun i hi => wpOp_mono (fun a' w' h' => ⟨fun hl => hz _ (h'.1 hl), wpAnyZ_weak hz fuel _ a' w' h'.2⟩) (h.2 i hi)⟩
theorem late_ne {ops : Array Oper} {i j : Nat} {listed : Array Bool} (hi : i < ops.size) (hji : j ≠ i) (hun : listed.getD i true = false) (hj : j ∈ Region.ready .any ops listed) : lateOf ops ≠ some j := by
 intro h
 unfold lateOf at h
 split at h
 ·rename_i hall
  simp only [Option.some.injEq] at h
  obtain ⟨hjun, oj, hoj, hw⟩ := mem_ready.1 hj
  have h1 := List.all_eq_true.1 hall i (by rw [List.mem_range]; omega)
  unfold waits at h1
  rw [h, hoj] at h1
  simp only [Array.any_eq_true'] at h1
  obtain ⟨e, he, h2⟩ := h1
  simp only [Bool.and_eq_true, beq_iff_eq] at h2
  have h3 := hw e he h2.1
  rw [h2.2] at h3
  rcases Nat.lt_or_ge i listed.size with h' | h'
  ·simp [h'] at h3 hun
   rw [hun] at h3
   cases h3
  ·simp [Array.getElem?_eq_none h'] at h3
 ·cases h
theorem wpAnyZ_first {P : Program} {ops : Array Oper} {Q : Exit -> Act -> World -> Prop} {S : World -> Prop} {i : Nat} {oi : Oper} {v : Value} (hi : ops[i]? = some oi) (hsel : ∀ (j : Nat) (o : Oper) cs b, ops[j]? = some o -> o.op ≠ .select cs b)
  (hQ : ∀ c a w, Q (.panic c) (a.put oi.dst v) w -> Q (.panic c) a w) :
  ∀ (fuel : Nat) (listed : Array Bool) (a : Act) (w : World),
   (∀ j oj, ops[j]? = some oj -> j ≠ i -> listed.getD j true = false -> (∀ e ∈ oj.after, Region.binds .any e = true -> e.on ≠ i) -> oi.apart ops oj = true) →
   i ∈ Region.ready .any ops listed -> YieldsIf P ops S oi v a -> S w →
   wpAnyZ P ops Q S fuel (listed.setIfInBounds i true) (a.put oi.dst v) w -> wpAnyZ P ops Q S (fuel + 1) listed a w := by
 have hsz : i < ops.size := (Array.getElem?_eq_some_iff.1 hi).1
 intro fuel
 induction fuel with
 | zero =>
  intro listed a w _ hr hy hS H
  refine ⟨fun h => (by rw [h] at hr; cases hr), fun j hj => ?_⟩
  by_cases hji : j = i
  ·subst hji; exact hy.wpOp hi hS ⟨fun _ => hS, H⟩
  ·have := ready_mono hj hji
   rw [H.1] at this
   cases this
 | succ fuel ih =>
  intro listed a w hfree hr hy hS H
  refine ⟨fun h => (by rw [h] at hr; cases hr), fun j hj => ?_⟩
  by_cases hji : j = i
  ·subst hji; exact hy.wpOp hi hS ⟨fun _ => hS, H⟩
  ·have h1 := H.2 j (ready_mono hj hji)
   have hln : lateOf ops ≠ some j := late_ne hsz hji (mem_ready.1 hr).1 hj
   obtain ⟨hjun, oj, hoj, hall⟩ := mem_ready.1 hj
   have hnot : ∀ e ∈ oj.after, Region.binds .any e = true -> e.on ≠ i := fun e he hb heq => by
    have h1 := hall e he hb
    have h0 := (mem_ready.1 hr).1
    rw [heq] at h1
    rcases Nat.lt_or_ge i listed.size with h' | h'
    ·simp [h'] at h0 h1; rw [h0] at h1; cases h1
    ·simp [Array.getElem?_eq_none h'] at h1
   have h2 := wpOp_putIf hoj (hfree j oj hoj hji hjun hnot) (fun cs b => hsel i oi cs b hi) (fun cs b => hsel j oj cs b hoj) hQ hy h1
   have hfree' : ∀ k ok, ops[k]? = some ok -> k ≠ i -> (listed.setIfInBounds j true).getD k true = false →
     (∀ e ∈ ok.after, Region.binds .any e = true -> e.on ≠ i) -> oi.apart ops ok = true := fun k ok hk hki hun hno => by
    refine hfree k ok hk hki ?_ hno
    by_cases hjk : j = k
    ·subst hjk; exact hjun
    ·rw [getD_set_ne true hjk] at hun; exact hun
   refine wpOp_mono (fun a' w' h3 => ⟨h3.2.1, ih (listed.setIfInBounds j true) a' w' hfree' (ready_mono hr (Ne.symm hji)) h3.1 (h3.2.1 hln) ?_⟩) h2
   rw [Array.setIfInBounds_comm _ _ hji]
   exact h3.2.2
theorem wpAnyZ_take {P : Program} {ops : Array Oper} {Q : Exit -> Act -> World -> Prop} {S : World -> Prop} {i : Nat} {oi : Oper} {v : Value} {fuel : Nat} {listed : Array Bool} {a : Act} {w : World} (hi : ops[i]? = some oi)
  (hs : Region.noSelect ops = true) (hf : Region.free .any ops listed i = true) (hr : (Region.ready .any ops listed).contains i = true)
  (hQ : ∀ c a w, Q (.panic c) (a.put oi.dst v) w -> Q (.panic c) a w) (hy : YieldsIf P ops S oi v a) (hS : S w)
  (h : wpAnyZ P ops Q S fuel (listed.setIfInBounds i true) (a.put oi.dst v) w) : wpAnyZ P ops Q S (fuel + 1) listed a w :=
 wpAnyZ_first hi (Region.noSelect_spec hs) hQ fuel listed a w (Region.free_spec hi hf) (by simpa using hr) hy hS h
theorem wpAnyZ_all {P : Program} {ops : Array Oper} {Q : Exit -> Act -> World -> Prop} {S : World -> Prop} {rs : List Nat} {fuel : Nat} {listed : Array Bool} {a : Act} {w : World} (hr : Region.ready .any ops listed = rs) (hne : rs ≠ [])
  (h : ∀ i ∈ rs, wpOp P ops Q i (fun a' w' => (lateOf ops ≠ some i -> S w') /\ wpAnyZ P ops Q S fuel (listed.setIfInBounds i true) a' w') a w) : wpAnyZ P ops Q S (fuel + 1) listed a w :=
 ⟨fun h0 => absurd (hr ▸ h0) hne, hr ▸ h⟩
theorem wpAnyZ_done {P : Program} {ops : Array Oper} {Q : Exit -> Act -> World -> Prop} {S : World -> Prop} {listed : Array Bool} {a : Act} {w : World} (hr : Region.ready .any ops listed = []) (h : Q .normal a w) :
  ∀ fuel, wpAnyZ P ops Q S fuel listed a w
 | 0 => ⟨hr, h⟩
 | _ + 1 => ⟨fun _ => h, by rw [hr]; simp⟩
theorem execK_pure (s : St c w0 S0 o0 cargs e a w S ow) {rid : Nat} {o : Oper} {qt : Bool} (hp : pureOp o.op = true) {K : Env -> Prop} (h : execK c qt rid o e K) : ∃ e0 S1 o1 x0 b, St c w0 S0 o0 cargs e0 a w S1 o1 /\ (∀ b m, o1 b = some m -> ow b = some m) /\ opK c rid (tgt c o.dst) o e0 fun y e1 => mvA (tgt c o.dst) x0 y e1 (fun y e2 => K (putO c o.dst y e2)) b := by
 unfold execK at h
 split at h
 ·rename_i ho; rw [ho] at hp; cases hp
 ·rename_i ho; rw [ho] at hp; cases hp
 ·rename_i ho; rw [ho] at hp; cases hp
 ·rename_i ho; rw [ho] at hp; cases hp
 ·rename_i ho; rw [ho] at hp; cases hp
 ·rename_i ho; rw [ho] at hp; cases hp
 ·rename_i ty x ho
  obtain ⟨e1, S1, o1, h1, s1, h2⟩ := s.ldF h
  exact ⟨e1, S1, o1, opV e1 x, c.ml o.dst, s1, h2, h1⟩
 ·exact ⟨e, S, ow, .undef, false, s, fun _ _ h => h, h⟩
theorem pure_yields (s : St c w0 S0 o0 cargs e a w S ow) {used : List Nat} (hh : Held c used ow) {ops : Array Oper} {o : Oper} (hp : pureOp o.op = true) {qt : Bool} (hq : (qt || !readsHeap c.g.P o.op) = true) (hd : dstOk c used o.dst = true) (hc : constsOk c o.op = true)
  {rid : Nat} {K : Env -> Prop} (h : stepK c qt rid ops o e K) : ∃ v, YieldsIf c.g.P ops (fun w' => qt = true -> Quiet w w') o v a /\ Then c w0 S0 o0 cargs (usedBy used o.dst) K (a.put o.dst v) w := by
 have hg := guardK_sound s h
 split at hg
 ·rename_i hw
  obtain ⟨e0, S1, oa, x0, bb, s1, hle, hg⟩ := execK_pure s hp hg
  have hh1 : Held c used oa := fun b m hm => hh b m (hle b m hm)
  obtain ⟨v, h1, x', h2', h3'⟩ := opK_pure s1 hp hc hg
  obtain ⟨x, e2, o2, h2, s2, h3, h8⟩ := mvA_out s1 (tgt_free hh1 hd) (tgt_le hd) h3' h2'
  obtain ⟨o1, h4, h5⟩ := s2.putO hh1 (fun b m hm => (h8 b m hm).imp (fun h => ⟨b, m, h, rfl⟩) fun ⟨q, h⟩ => by rw [h]; rfl) hd h3
  refine ⟨v, .inl ⟨hw, fun w' hw' => h1 w' fun hr => hw' ?_⟩, _, S1, o1, h2, h4, h5⟩
  rw [hr] at hq
  simpa using hq
 ·rename_i hw
  obtain ⟨o1, h4, h5⟩ := s.putO hh (fun b m hm => .inl ⟨b, m, hm, rfl⟩) hd (v := Go.undef) (x := .tup []) (.inr ⟨#[], [], rfl, rfl, rfl, fun i u x hi => by simp at hi⟩)
  exact ⟨Go.undef, .inr ⟨by simpa using hw, rfl⟩, _, S, o1, hg, h4, h5⟩
mutual
theorem regP_sound {ops : Array Oper} {rid : Nat} {qt : Bool} {K : Env -> Prop} {Q : Exit -> Act -> World -> Prop} (hQ : ∀ used a w, Then c w0 S0 o0 cargs used K a w -> Q .normal a w) (hQp : ∀ ch a w, ¬ Q (.panic ch) a w) :
  ∀ (p : Plan) (fuel : Nat) (used : List Nat) (listed : Array Bool) (e : Env) (a : Act) (w : World) (S : Nat -> Prop) (ow : Own), St c w0 S0 o0 cargs e a w S ow -> Held c used ow -> planOk c qt ops used listed fuel p = true -> regP c qt rid ops p e K →
   wpAnyZ c.g.P ops Q (fun w' => qt = true -> Quiet w w') fuel listed a w
 | .done, fuel, used, listed, e, a, w, S, ow, s, hh, hok, h => by
  simp only [planOk, List.isEmpty_iff] at hok
  exact wpAnyZ_done hok (hQ used a w ⟨e, S, ow, h, s, hh⟩) fuel
 | .take i p, 0, used, listed, e, a, w, S, ow, s, hh, hok, h => by simp [planOk] at hok
 | .take i p, fuel + 1, used, listed, e, a, w, S, ow, s, hh, hok, h => by
  unfold planOk at hok
  unfold regP at h
  split at h
  ·rename_i o hi
   rw [hi] at hok
   simp only [Bool.and_eq_true] at hok
   obtain ⟨⟨⟨⟨⟨⟨⟨h1, h2⟩, h3⟩, h4⟩, h5⟩, h6⟩, h7⟩, h8⟩ := hok
   obtain ⟨v, h9, e1, S1, o1, h10, h11, h12⟩ := pure_yields s hh h1 h2 h6 h7 h
   exact wpAnyZ_take hi h3 h4 h5 (fun ch a w hq => (hQp _ _ _ hq).elim) h9 (fun _ => Quiet.refl w) (regP_sound hQ hQp p fuel _ _ e1 _ w S1 o1 h11 h12 h8 h10)
  ·exact h.elim
 | .last i, 0, used, listed, e, a, w, S, ow, s, hh, hok, h => by simp [planOk] at hok
 | .last i, fuel + 1, used, listed, e, a, w, S, ow, s, hh, hok, h => by
  unfold planOk at hok
  unfold regP at h
  simp only [Bool.and_eq_true, decide_eq_true_eq, List.isEmpty_iff] at hok
  obtain ⟨⟨⟨hl, h1⟩, h2⟩, hok⟩ := hok
  refine wpAnyZ_all h1 (by simp) fun k hk => ?_
  rw [List.mem_singleton.1 hk]
  split at h
  ·rename_i o ho
   rw [ho] at hok
   simp only [Bool.and_eq_true] at hok
   have step := stepK_sound s hh hok.1 hok.2 h (Q := Q)
   have go : ∀ a1 w1, Then c w0 S0 o0 cargs (usedBy used o.dst) K a1 w1 -> (lateOf ops ≠ some i -> qt = true -> Quiet w w1) /\ wpAnyZ c.g.P ops Q (fun w' => qt = true -> Quiet w w') fuel (listed.setIfInBounds i true) a1 w1 := fun a1 w1 h3 =>
    ⟨fun hn => absurd hl hn, wpAnyZ_done h2 (hQ _ _ _ h3) fuel⟩
   unfold wpOp
   rw [ho]
   simp only
   split at step
   ·rename_i hw
    rw [if_pos hw]
    exact .inl (Oper.wp_mono (fun a1 w1 h => go a1 w1 h.1) step)
   ·rename_i hw
    rw [if_neg hw]
    exact go _ w step
  ·exact h.elim
 | .all ps, 0, used, listed, e, a, w, S, ow, s, hh, hok, h => by simp [planOk] at hok
 | .all ps, fuel + 1, used, listed, e, a, w, S, ow, s, hh, hok, h => by
  unfold planOk at hok
  unfold regP at h
  simp only [Bool.and_eq_true, decide_eq_true_eq, Bool.not_eq_true', List.isEmpty_eq_false_iff] at hok
  obtain ⟨⟨h1, h2⟩, h3⟩ := hok
  exact wpAnyZ_all h2 h1 fun i hi => regPs_sound hQ hQp ps fuel used listed e a w S ow s hh h3 h i hi
theorem regPs_sound {ops : Array Oper} {rid : Nat} {qt : Bool} {K : Env -> Prop} {Q : Exit -> Act -> World -> Prop} (hQ : ∀ used a w, Then c w0 S0 o0 cargs used K a w -> Q .normal a w) (hQp : ∀ ch a w, ¬ Q (.panic ch) a w) :
  ∀ (ps : Plans) (fuel : Nat) (used : List Nat) (listed : Array Bool) (e : Env) (a : Act) (w : World) (S : Nat -> Prop) (ow : Own), St c w0 S0 o0 cargs e a w S ow -> Held c used ow -> plansOk c qt ops used listed fuel ps = true -> regPs c qt rid ops ps e K →
   ∀ i ∈ ps.firsts, wpOp c.g.P ops Q i (fun a' w' => (lateOf ops ≠ some i -> qt = true -> Quiet w w') /\ wpAnyZ c.g.P ops Q (fun w' => qt = true -> Quiet w w') fuel (listed.setIfInBounds i true) a' w') a w
 | .nil, fuel, used, listed, e, a, w, S, ow, s, hh, hok, h, i, hi => by simp [Plans.firsts] at hi
 | .cons j p ps, fuel, used, listed, e, a, w, S, ow, s, hh, hok, h, i, hi => by
  unfold plansOk at hok
  unfold regPs at h
  simp only [Bool.and_eq_true] at hok
  obtain ⟨hok, hoks⟩ := hok
  obtain ⟨h, hs⟩ := h
  rcases List.mem_cons.1 hi with rfl | hi
  ·split at h
   ·rename_i o ho
    rw [ho] at hok
    simp only [Bool.and_eq_true] at hok
    obtain ⟨⟨h6, h7⟩, h8⟩ := hok
    have step := stepK_sound s hh h6 h7 h (Q := Q)
    have go : ∀ a1 w1, Then c w0 S0 o0 cargs (usedBy used o.dst) (fun e1 => regP c qt rid ops p e1 K) a1 w1 -> (qt = true -> Quiet w w1) →
      (lateOf ops ≠ some i -> qt = true -> Quiet w w1) /\ wpAnyZ c.g.P ops Q (fun w' => qt = true -> Quiet w w') fuel (listed.setIfInBounds i true) a1 w1 := by
     rintro a1 w1 ⟨e1, S1, o1, h1, h2, h3⟩ hq
     exact ⟨fun _ => hq, wpAnyZ_weak (Z' := fun w' => qt = true -> Quiet w1 w') (fun w' hw' hqt => (hq hqt).trans (hw' hqt)) fuel _ a1 w1 (regP_sound hQ hQp p fuel _ _ e1 a1 w1 S1 o1 h2 h3 h8 h1)⟩
    unfold wpOp
    rw [ho]
    simp only
    split at step
    ·rename_i hw
     rw [if_pos hw]
     exact .inl (Oper.wp_mono (fun a1 w1 h => go a1 w1 h.1 h.2) step)
    ·rename_i hw
     rw [if_neg hw]
     exact go _ w step fun _ => Quiet.refl w
   ·exact h.elim
  ·exact regPs_sound hQ hQp ps fuel used listed e a w S ow s hh hoks hs i hi
end
theorem VW.drawn {e : Env} {Q : Ex -> Env -> Prop} {id : Nat} {ops : Array Oper} (qt : Bool) (p : Plan) (hok : planOk c qt ops [] (Array.replicate ops.size false) ops.size p = true) (h : regP c qt id ops p e fun e1 => Q .normal (restrict c e1)) : VW c (.region id ops true) e Q :=
 fun w0 S0 o0 cargs a w S ow s hh => wp_region_any c.g.mixed (wpAny_of_Z (S := fun w' => qt = true -> Quiet { w with drawn := w.drawn + 1 } w') _ _ _ _
  (regP_sound (fun used a w ⟨e1, S1, o1, h1, h2, h3⟩ => ⟨_, S1, _, h1, h2.restrict, h3.restrict⟩) (fun ch a w h => h) p ops.size [] _ e a _ S ow s.drew hh hok h))
end Go.VS
/- VS, thirty-second part: light instructions, and a rule for each kind of operation. -/
set_option linter.unusedVariables false
set_option linter.unusedSimpArgs false
namespace Go.VS
structure Ins where
 dst : Option Tmp
 op : Op
 type : TypeId
 guard : Option (Option Tmp × Bool)
def Ins.oper (s : Ins) : Oper := ⟨s.dst, s.op, s.type, "", #[], none⟩
def comp (ops : Array Oper) (o : Oper) : Ins := ⟨o.dst, o.op, o.type, o.guard.map fun g => ((ops[g.1]?).bind (·.dst), g.2)⟩
def guardI (g : Option (Option Tmp × Bool)) (e : Env) (A B : Prop) : Prop :=
 match g with
 | none => A
 | some (some d, want) => match e d with
  | .lit (.bool b) => (b = want -> A) /\ (b = !want -> B)
  | .tup [] => B
  | _ => False
 | some (none, _) => B
def stepI (c : Ctx) (qt : Bool) (rid : Nat) (s : Ins) (e : Env) (K : Env -> Prop) : Prop :=
 guardI s.guard e (execK c qt rid s.oper e K) (K (putO c s.dst (.tup []) e))
def regI (c : Ctx) (qt : Bool) (rid : Nat) : List Ins -> Env -> (Env -> Prop) -> Prop
 | [], e, K => K e
 | s :: ss, e, K => stepI c qt rid s e fun e1 => regI c qt rid ss e1 K
theorem stepI_eq (c : Ctx) (qt : Bool) (rid : Nat) (ops : Array Oper) (o : Oper) (e : Env) (K : Env -> Prop) : stepI c qt rid (comp ops o) e K = stepK c qt rid ops o e K := by
 have hx : execK c qt rid (comp ops o).oper e K = execK c qt rid o e K := rfl
 unfold stepI stepK
 rw [hx]
 cases hg : o.guard with
 | none => simp [guardI, guardK, comp, hg]
 | some p =>
  obtain ⟨j, want⟩ := p
  cases hd : (ops[j]?).bind (·.dst) with
  | none => simp [guardI, guardK, comp, hg, hd]
  | some d =>
   simp only [guardI, guardK, comp, hg, hd, Option.map_some]
   all_goals rfl
theorem regI_eq (c : Ctx) (rid : Nat) (ops : Array Oper) : ∀ (os : List Oper) (e : Env) (K : Env -> Prop), regI c false rid (os.map (comp ops)) e K = regO c rid ops os e K
 | [], e, K => rfl
 | o :: os, e, K => by
  simp only [List.map_cons, regI, regO, stepI_eq]
  congr 1
  funext e1
  exact regI_eq c rid ops os e1 K
theorem VW.regionI {c : Ctx} {e : Env} {Q : Ex -> Env -> Prop} {id : Nat} {ops : Array Oper} (l : List Ins) (hl : ops.toList.map (comp ops) = l) (hok : okIdx c ops [] (List.range ops.size) = true)
  (h : regI c false id l e fun e1 => Q .normal (restrict c e1)) : VW c (.region id ops false) e Q :=
 VW.regionO hok (by rw [<- regI_eq, hl]; exact h)
section
variable {c : Ctx} {qt : Bool} {rid : Nat} {e : Env} {K : Env -> Prop} {d : Option Tmp} {ty : TypeId} {g : Option (Option Tmp × Bool)} {ss : List Ins} {op : Op}
theorem ri_nil : regI c qt rid [] e K = K e := rfl
theorem ri_plain : regI c qt rid (⟨d, op, ty, none⟩ :: ss) e K = execK c qt rid (Ins.oper ⟨d, op, ty, none⟩) e fun e1 => regI c qt rid ss e1 K := rfl
end
end Go.VS
/- VS, thirty-third part: the rules by which a function is reckoned through. -/
set_option linter.unusedVariables false
set_option linter.unusedSimpArgs false
namespace Go.VS
def pickK (q : AVal) (a b : AVal) (K : AVal -> Prop) : Prop :=
 match q with
 | .lit (.bool q) => (q = true -> K a) /\ (q = false -> K b)
 | _ => False
theorem pickK_true {a b : AVal} {K : AVal -> Prop} : pickK (.lit (.bool true)) a b K = K a := by simp [pickK]
theorem pickK_false {a b : AVal} {K : AVal -> Prop} : pickK (.lit (.bool false)) a b K = K b := by simp [pickK]
def loadK (P : Program) (t : TypeId) (x : AVal) (e : Env) (K : AVal -> Prop) : Prop :=
 match x with
 | .ptr false y => y.w = P.cellsOf t /\ 0 < y.w /\ aggT P t = some (isAggA y) /\ K y
 | .adr l i fs off => match getE e l with
  | some node => match nodeAt i fs node with
   | some (off', y) => off' = off /\ y.w = P.cellsOf t /\ 0 < y.w /\ aggT P t = some (isAggA y) /\ K (copyOut ((l.idx i).flds fs) y)
   | none => False
  | none => False
 | _ => False
def fieldAddrK (f : Option (Nat × TypeId)) (k : Nat) (x : AVal) (K : AVal -> Prop) : Prop :=
 match f, x with
 | some (fo, _), .adr l i fs off => K (.adr l i (fs ++ [k]) (off + fo))
 | some (fo, _), .ptr false y => match getF [k] y with
  | some (fo', z) => fo' = fo /\ 0 < z.w /\ K (.ptr false z)
  | none => False
 | _, _ => False
def nilCheckK (x : AVal) (K : AVal -> Prop) : Prop :=
 match x with
 | .adr l i fs off => K (.adr l i fs off)
 | .ptr false y => K (.ptr false y)
 | _ => False
def indexAddrK (P : Program) (el : Option TypeId) (i x : AVal) (K : AVal -> Prop) : Prop :=
 match el, i with
 | some el, .lit (.int _ n) => match x with
  | .lst false sz xs => P.cellsOf el = sz /\ 0 < sz /\ 0 <= n /\ n < xs.length /\ ∃ y, xs[n.toNat]? = some y /\ K (.ptr false y)
  | .href l sz lo m => P.cellsOf el = sz /\ 0 < sz /\ 0 <= n /\ n < m /\ K (.adr l (lo + n.toNat) [] ((lo + n.toNat) * sz))
  | _ => False
 | _, _ => False
def lenK (ty : Option TypeDesc) (x : AVal) (es : Option (List (Value × Value))) (K : AVal -> Prop) : Prop :=
 match x with
 | .lit (.string s) => match ty with
  | some .string => s.size <= maxLen -> K (.lit (.int .i64 s.size))
  | _ => False
 | .lst false _ xs => match ty with
  | some (.slice _) => xs.length <= maxLen -> K (.lit (.int .i64 xs.length))
  | _ => False
 | .href _ _ _ n => match ty with
  | some (.slice _) => n <= maxLen -> K (.lit (.int .i64 n))
  | _ => False
 | _ => lenMp K es ty
def extractK (x : AVal) (s i : Nat) (K : AVal -> Prop) : Prop :=
 match x with
 | .tup xs => match xs[i]? with
  | some y => K (copyOut ⟨s, [.fld i]⟩ y)
  | none => False
 | _ => False
def unK (o : Option Value) (K : AVal -> Prop) : Prop :=
 match o with
 | some v => K (.lit v)
 | none => False
def allocK (z : Option AVal) (K : AVal -> Prop) : Prop :=
 match z with
 | some z => K (.ptr true z)
 | none => False
section
variable {c : Ctx} {qt : Bool} {rid : Nat} {e : Env} {K : Env -> Prop} {d : Option Tmp} {ty : TypeId} {g : Option (Option Tmp × Bool)}
theorem ex_len {x : Operand} {t : TypeId} : execK c qt rid (Ins.oper ⟨d, .call { callee := .builtin .len, args := #[x], argTypes := #[t] }, ty, g⟩) e K = lenK (c.g.P.underlying t) (opV e x) (esOf e (opV e x)) fun v => K (putO c d v e) := by
 show (match opV e x with
   | .lit (.string s) => match c.g.P.underlying t with
    | some .string => s.size <= maxLen -> K (putO c d (.lit (.int .i64 s.size)) e)
    | _ => False
   | .lst false _ xs => match c.g.P.underlying t with
    | some (.slice _) => xs.length <= maxLen -> K (putO c d (.lit (.int .i64 xs.length)) e)
    | _ => False
   | .href _ _ _ n => match c.g.P.underlying t with
    | some (.slice _) => n <= maxLen -> K (putO c d (.lit (.int .i64 n)) e)
    | _ => False
   | v => lenMp (fun y => K (putO c d y e)) (esOf e v) (c.g.P.underlying t)) = _
 unfold lenK
 cases opV e x with
 | lit v => cases v <;> rfl
 | lst own sz xs => cases own <;> rfl
 | _ => rfl
end
end Go.VS
