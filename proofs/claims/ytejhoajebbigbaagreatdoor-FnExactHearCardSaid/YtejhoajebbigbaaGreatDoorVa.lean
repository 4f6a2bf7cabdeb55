/- VS, first part: abstract values, places, and what it is that a value lies in memory so. -/
import Derived.Calls
import Derived.OrdersHeld
import Derived.Below
import Derived.Laws.AppendOwn
set_option linter.unusedVariables false
set_option linter.unusedSimpArgs false
namespace Go.VS
inductive Step where
 | fld (k : Nat)
 | idx (i : Nat)
 deriving DecidableEq
structure Loc where
 r : Nat
 p : List Step
 deriving DecidableEq
def Loc.fld (l : Loc) (k : Nat) : Loc := ⟨l.r, l.p ++ [.fld k]⟩
def Loc.idx (l : Loc) (i : Nat) : Loc := ⟨l.r, l.p ++ [.idx i]⟩
def Loc.ext (l : Loc) (q : List Step) : Loc := ⟨l.r, l.p ++ q⟩
theorem Loc.ext_nil (l : Loc) : l.ext [] = l := by simp [Loc.ext]
theorem Loc.fld_ext (l : Loc) (k : Nat) (q : List Step) : (l.fld k).ext q = l.ext (.fld k :: q) := by simp [Loc.ext, Loc.fld]
theorem Loc.idx_ext (l : Loc) (k : Nat) (q : List Step) : (l.idx k).ext q = l.ext (.idx k :: q) := by simp [Loc.ext, Loc.idx]
theorem Loc.ext_ext (l : Loc) (p q : List Step) : (l.ext p).ext q = l.ext (p ++ q) := by simp [Loc.ext]
theorem Loc.ext_inj {l : Loc} {p q : List Step} (h : l.ext p = l.ext q) : p = q := by simpa [Loc.ext] using h
inductive AVal where
 | undef
 | lit (v : Value)
 | ifc
 | agg (xs : List AVal)
 | tup (xs : List AVal)
 | lst (own : Bool) (sz : Nat) (xs : List AVal)
 | ptr (own : Bool) (x : AVal)
 | mp (own : Bool) (es : List (Value × Value))
 | fn (f : Nat) (caps : List AVal)
 | href (l : Loc) (sz lo n : Nat)
 | adr (l : Loc) (i : Nat) (fs : List Nat) (off : Nat)
 | mref (l : Loc)
mutual
def AVal.w : AVal -> Nat
 | .agg xs => AVal.ws xs
 | _ => 1
def AVal.ws : List AVal -> Nat
 | [] => 0
 | x :: xs => x.w + AVal.ws xs
end
mutual
def toShd : AVal -> AVal
 | .agg xs => .agg (toShds xs)
 | .tup xs => .tup (toShds xs)
 | .lst _ sz xs => .lst false sz (toShds xs)
 | .ptr _ x => .ptr false (toShd x)
 | .mp _ es => .mp false es
 | .fn f caps => .fn f (toShds caps)
 | x => x
def toShds : List AVal -> List AVal
 | [] => []
 | x :: xs => toShd x :: toShds xs
end
mutual
def noRef : AVal -> Bool
 | .agg xs => noRefs xs
 | .tup xs => noRefs xs
 | .lst _ _ xs => noRefs xs
 | .ptr _ x => noRef x
 | .fn _ caps => noRefs caps
 | .href .. => false
 | .adr .. => false
 | .mref _ => false
 | _ => true
def noRefs : List AVal -> Bool
 | [] => true
 | x :: xs => noRef x && noRefs xs
end
mutual
def copyOut (l : Loc) : AVal -> AVal
 | .agg xs => .agg (copyOuts l 0 xs)
 | .tup xs => .tup (copyOuts l 0 xs)
 | .fn f caps => .fn f (copyOuts l 0 caps)
 | .lst true sz xs => .href l sz 0 xs.length
 | .ptr true _ => .adr l 0 [] 0
 | .mp true _ => .mref l
 | x => x
def copyOuts (l : Loc) (k : Nat) : List AVal -> List AVal
 | [] => []
 | x :: xs => copyOut (l.fld k) x :: copyOuts l (k + 1) xs
end
mutual
def killP (d : Loc -> Bool) : AVal -> AVal
 | .agg xs => .agg (killPs d xs)
 | .tup xs => .tup (killPs d xs)
 | .ptr true x => .ptr true (killP d x)
 | .fn f caps => .fn f (killPs d caps)
 | .href l a b c => if d l then .undef else .href l a b c
 | .adr l a b c => if d l then .undef else .adr l a b c
 | .mref l => if d l then .undef else .mref l
 | x => x
def killPs (d : Loc -> Bool) : List AVal -> List AVal
 | [] => []
 | x :: xs => killP d x :: killPs d xs
end
theorem toShds_map : ∀ xs, toShds xs = xs.map toShd
 | [] => rfl
 | x :: xs => by simp [toShds, toShds_map xs]
theorem killPs_map (d : Loc -> Bool) : ∀ xs, killPs d xs = xs.map (killP d)
 | [] => rfl
 | x :: xs => by simp [killPs, killPs_map d xs]
theorem noRefs_all : ∀ xs, noRefs xs = xs.all noRef
 | [] => rfl
 | x :: xs => by simp [noRefs, noRefs_all xs]
theorem noRefs_get {xs : List AVal} (h : noRefs xs = true) {i : Nat} {x : AVal} (hx : xs[i]? = some x) : noRef x = true := by
 rw [noRefs_all, List.all_eq_true] at h
 exact h x (List.mem_of_getElem? hx)
theorem copyOuts_length (l : Loc) : ∀ (k : Nat) (xs : List AVal), (copyOuts l k xs).length = xs.length
 | _, [] => rfl
 | k, x :: xs => by simp [copyOuts, copyOuts_length l (k + 1) xs]
theorem copyOuts_get (l : Loc) : ∀ (k : Nat) (xs : List AVal) (i : Nat), (copyOuts l k xs)[i]? = (xs[i]?).map (copyOut (l.fld (k + i)))
 | _, [], i => by simp [copyOuts]
 | k, x :: xs, 0 => by simp [copyOuts]
 | k, x :: xs, i + 1 => by
  simp only [copyOuts, List.getElem?_cons_succ]
  rw [copyOuts_get l (k + 1) xs i, show k + 1 + i = k + (i + 1) by omega]
mutual
theorem killP_noRef (d : Loc -> Bool) : ∀ x, noRef x = true -> killP d x = x
 | .agg xs, h => by simp only [noRef] at h; simp only [killP, killPs_noRef d xs h]
 | .tup xs, h => by simp only [noRef] at h; simp only [killP, killPs_noRef d xs h]
 | .ptr true x, h => by simp only [noRef] at h; simp only [killP, killP_noRef d x h]
 | .fn f caps, h => by simp only [noRef] at h; simp only [killP, killPs_noRef d caps h]
 | .href .., h => by simp [noRef] at h
 | .adr .., h => by simp [noRef] at h
 | .mref _, h => by simp [noRef] at h
 | .undef, _ => rfl
 | .lit _, _ => rfl
 | .ifc, _ => rfl
 | .lst _ _ _, _ => rfl
 | .ptr false _, _ => rfl
 | .mp _ _, _ => rfl
theorem killPs_noRef (d : Loc -> Bool) : ∀ xs, noRefs xs = true -> killPs d xs = xs
 | [], _ => rfl
 | x :: xs, h => by
  simp only [noRefs, Bool.and_eq_true] at h
  simp only [killPs, killP_noRef d x h.1, killPs_noRef d xs h.2]
end
mutual
theorem killP_false : ∀ x, killP (fun _ => false) x = x
 | .agg xs => by simp only [killP, killPs_false xs]
 | .tup xs => by simp only [killP, killPs_false xs]
 | .ptr true x => by simp only [killP, killP_false x]
 | .ptr false _ => rfl
 | .fn _ caps => by simp only [killP, killPs_false caps]
 | .href .. => rfl
 | .adr .. => rfl
 | .mref _ => rfl
 | .undef => rfl
 | .lit _ => rfl
 | .ifc => rfl
 | .lst _ _ _ => rfl
 | .mp _ _ => rfl
theorem killPs_false : ∀ xs, killPs (fun _ => false) xs = xs
 | [] => rfl
 | x :: xs => by simp only [killPs, killP_false x, killPs_false xs]
end
mutual
theorem killP_w (d : Loc -> Bool) : ∀ x, (killP d x).w = x.w
 | .agg xs => by simp only [killP, AVal.w, killPs_w d xs]
 | .tup _ => rfl
 | .ptr true _ => rfl
 | .ptr false _ => rfl
 | .fn _ _ => rfl
 | .href l _ _ _ => by simp only [killP]; split <;> rfl
 | .adr l _ _ _ => by simp only [killP]; split <;> rfl
 | .mref l => by simp only [killP]; split <;> rfl
 | .undef => rfl
 | .lit _ => rfl
 | .ifc => rfl
 | .lst _ _ _ => rfl
 | .mp _ _ => rfl
theorem killPs_w (d : Loc -> Bool) : ∀ xs, AVal.ws (killPs d xs) = AVal.ws xs
 | [] => rfl
 | x :: xs => by simp only [killPs, AVal.ws, killP_w d x, killPs_w d xs]
end
mutual
theorem copyOut_w (l : Loc) : ∀ x, (copyOut l x).w = x.w
 | .agg xs => by simp only [copyOut, AVal.w, copyOuts_w l 0 xs]
 | .tup _ => rfl
 | .ptr true _ => rfl
 | .ptr false _ => rfl
 | .fn _ _ => rfl
 | .href .. => rfl
 | .adr .. => rfl
 | .mref _ => rfl
 | .undef => rfl
 | .lit _ => rfl
 | .ifc => rfl
 | .lst true _ _ => rfl
 | .lst false _ _ => rfl
 | .mp true _ => rfl
 | .mp false _ => rfl
theorem copyOuts_w (l : Loc) : ∀ k xs, AVal.ws (copyOuts l k xs) = AVal.ws xs
 | _, [] => rfl
 | k, x :: xs => by simp only [copyOuts, AVal.ws, copyOut_w (l.fld k) x, copyOuts_w l (k + 1) xs]
end
mutual
theorem toShd_w : ∀ x, (toShd x).w = x.w
 | .agg xs => by simp only [toShd, AVal.w, toShds_w xs]
 | .tup _ => rfl
 | .ptr _ _ => rfl
 | .fn _ _ => rfl
 | .href .. => rfl
 | .adr .. => rfl
 | .mref _ => rfl
 | .undef => rfl
 | .lit _ => rfl
 | .ifc => rfl
 | .lst _ _ _ => rfl
 | .mp _ _ => rfl
theorem toShds_w : ∀ xs, AVal.ws (toShds xs) = AVal.ws xs
 | [] => rfl
 | x :: xs => by simp only [toShds, AVal.ws, toShd_w x, toShds_w xs]
end
def getP : List Step -> AVal -> Option AVal
 | [], x => some x
 | .fld k :: p, .agg xs => (xs[k]?).bind (getP p)
 | .fld k :: p, .tup xs => (xs[k]?).bind (getP p)
 | .idx i :: p, .lst _ _ xs => (xs[i]?).bind (getP p)
 | .idx 0 :: p, .ptr _ x => getP p x
 | _, _ => none
def putP : List Step -> AVal -> AVal -> AVal
 | [], y, _ => y
 | .fld k :: p, y, .agg xs => .agg (xs.modify k (putP p y))
 | .fld k :: p, y, .tup xs => .tup (xs.modify k (putP p y))
 | .idx i :: p, y, .lst own sz xs => .lst own sz (xs.modify i (putP p y))
 | .idx 0 :: p, y, .ptr own x => .ptr own (putP p y x)
 | _, _, x => x
def getF : List Nat -> AVal -> Option (Nat × AVal)
 | [], x => some (0, x)
 | k :: fs, .agg xs => match xs[k]? with
  | some x => match getF fs x with
   | some (o, y) => some (AVal.ws (xs.take k) + o, y)
   | none => none
  | none => none
 | _, _ => none
def putF : List Nat -> AVal -> AVal -> AVal
 | [], y, _ => y
 | k :: fs, y, .agg xs => .agg (xs.modify k (putF fs y))
 | _, _, x => x
def litOk : Value -> Prop
 | .int k n => k.min <= n /\ n <= k.max
 | .string s => s.size <= maxLen
 | .agg _ => False
 | .tuple _ => False
 | _ => True
theorem litOk.one {v : Value} (h : litOk v) : v.oneCell' = true := by
 cases v <;> simp_all [litOk, Value.oneCell']
def frOk (fr : Nat × Nat) (n : Nat) : Prop := ∀ j, j < n -> ¬ (fr.1 <= j /\ j < fr.2)
inductive RepS (h : Array Obj) (S : Nat -> Prop) : List Value -> AVal -> Prop
 | undef {c} : c.oneCell' = true -> RepS h S [c] .undef
 | lit {v} : litOk v -> RepS h S [v] (.lit v)
 | ifc {t v} : RepS h S [.iface t v] .ifc
 | agg {css : List (List Value)} {xs : List AVal} : css.length = xs.length -> (∀ (i : Nat) (c : List Value) (x : AVal), css[i]? = some c -> xs[i]? = some x -> RepS h S c x) -> RepS h S css.flatten (.agg xs)
 | emp {ad : Option Addr} {cap sz : Nat} : cap <= maxLen -> RepS h S [.slice ad 0 cap] (.lst false sz [])
 | lst {b off cap : Nat} {cur : Array Value} {e : TypeId} {fr : Nat × Nat} {sz : Nat} {xs : List AVal} : h[b]? = some (.cells cur e fr) -> S b →
   off + xs.length * sz <= cur.size -> xs.length <= cap -> cap <= maxLen →
   (∀ (i : Nat) (x : AVal), xs[i]? = some x -> RepS h S ((cur.toList.drop (off + i * sz)).take sz) x) -> RepS h S [.slice (some ⟨b, off, none⟩) xs.length cap] (.lst false sz xs)
 | ptr {b off : Nat} {cur : Array Value} {e : TypeId} {fr : Nat × Nat} {x : AVal} : h[b]? = some (.cells cur e fr) -> S b -> off + x.w <= cur.size →
   RepS h S ((cur.toList.drop off).take x.w) x -> RepS h S [.pointer (some ⟨b, off, none⟩)] (.ptr false x)
 | mp {b clock : Nat} {es : Array MapEntry} : h[b]? = some (.map es clock) -> S b -> RepS h S [.map (some b)] (.mp false (es.toList.map fun m => (m.key, m.val)))
 | mpNil : RepS h S [.map none] (.mp false [])
 | fn {f : FuncId} {cvs : Array Value} {caps : List AVal} : cvs.size = caps.length -> (∀ (i : Nat) (c : Value) (x : AVal), cvs[i]? = some c -> caps[i]? = some x -> RepS h S [c] x) →
   RepS h S [.func (.func f) #[] cvs] (.fn f caps)
def sameShape (h h' : Array Obj) (b : Nat) : Prop :=
 (∀ cur e fr, h[b]? = some (.cells cur e fr) -> ∃ cur', h'[b]? = some (.cells cur' e fr) /\ cur'.size = cur.size) ∧
 (∀ es c, h[b]? = some (.map es c) -> ∃ es' c', h'[b]? = some (.map es' c'))
theorem sameShape.of_eq {h h' : Array Obj} {b : Nat} (e : h'[b]? = h[b]?) : sameShape h h' b :=
 ⟨fun cur t fr hb => ⟨cur, e.trans hb, rfl⟩, fun es c hb => ⟨es, c, e.trans hb⟩⟩
theorem sameShape.trans {h h' h'' : Array Obj} {b : Nat} (p : sameShape h h' b) (q : sameShape h' h'' b) : sameShape h h'' b :=
 ⟨fun cur e fr hb => let ⟨c1, h1, s1⟩ := p.1 cur e fr hb; let ⟨c2, h2, s2⟩ := q.1 c1 e fr h1; ⟨c2, h2, s2.trans s1⟩, fun es c hb => let ⟨e1, c1, h1⟩ := p.2 es c hb; q.2 e1 c1 h1⟩
theorem RepS.mono {h h' : Array Obj} {S S' : Nat -> Prop} (hS : ∀ b, S b -> S' b /\ h'[b]? = h[b]?) {cs : List Value} {x : AVal} (r : RepS h S cs x) : RepS h' S' cs x := by
 induction r with
 | undef a => exact .undef a
 | lit a => exact .lit a
 | ifc => exact .ifc
 | agg a _ ih => exact .agg a ih
 | emp a => exact .emp a
 | lst a b c d e _ ih => exact .lst ((hS _ b).2.trans a) (hS _ b).1 c d e ih
 | ptr a b c _ ih => exact .ptr ((hS _ b).2.trans a) (hS _ b).1 c ih
 | mp a b => exact .mp ((hS _ b).2.trans a) (hS _ b).1
 | mpNil => exact .mpNil
 | fn a _ ih => exact .fn a ih
theorem ws_flatten : ∀ {css : List (List Value)} {xs : List AVal}, css.length = xs.length -> (∀ (i : Nat) (c : List Value) (x : AVal), css[i]? = some c -> xs[i]? = some x -> c.length = x.w) -> css.flatten.length = AVal.ws xs
 | [], [], _, _ => rfl
 | [], _ :: _, h, _ => by simp at h
 | _ :: _, [], h, _ => by simp at h
 | c :: css, x :: xs, h, hl => by
  have h1 := hl 0 c x rfl rfl
  have h2 := ws_flatten (css := css) (xs := xs) (by simpa using h) (fun i c x hc hx => hl (i + 1) c x (by simpa using hc) (by simpa using hx))
  rw [List.flatten_cons, List.length_append, h1, h2]
  rfl
theorem RepS.len {h : Array Obj} {S : Nat -> Prop} {cs : List Value} {x : AVal} (r : RepS h S cs x) : cs.length = x.w := by
 induction r with
 | agg a _ ih => exact ws_flatten a ih
 | _ => rfl
theorem mem_flatten_of {css : List (List Value)} {xs : List AVal} (hl : css.length = xs.length) (hP : ∀ (i : Nat) (c : List Value) (x : AVal), css[i]? = some c -> xs[i]? = some x -> ∀ u ∈ c, u.oneCell' = true) : ∀ u ∈ css.flatten, u.oneCell' = true := by
 intro u hu
 obtain ⟨c, hc, hu⟩ := List.mem_flatten.1 hu
 obtain ⟨i, hi, rfl⟩ := List.getElem_of_mem hc
 exact hP i _ xs[i] (List.getElem?_eq_getElem hi) (List.getElem?_eq_getElem (hl ▸ hi)) u hu
theorem RepS.ones {h : Array Obj} {S : Nat -> Prop} {cs : List Value} {x : AVal} (r : RepS h S cs x) : ∀ u ∈ cs, u.oneCell' = true := by
 induction r with
 | undef a => simpa using a
 | lit a => simpa using a.one
 | agg a _ ih => exact mem_flatten_of a ih
 | _ => intro u hu; simp at hu; subst hu; rfl
inductive Rep (h : Array Obj) (S : Nat -> Prop) (o : Nat -> Option Loc) : Loc -> List Value -> AVal -> Prop
 | shd {l cs x} : RepS h S cs x -> Rep h S o l cs x
 | agg {l} {css : List (List Value)} {xs : List AVal} : css.length = xs.length -> (∀ (i : Nat) (c : List Value) (x : AVal), css[i]? = some c -> xs[i]? = some x -> Rep h S o (l.fld i) c x) →
   Rep h S o l css.flatten (.agg xs)
 | nil {l sz} : Rep h S o l [.slice none 0 0] (.lst true sz [])
 | lst {l} {b cap : Nat} {cur : Array Value} {e : TypeId} {fr : Nat × Nat} {sz : Nat} {xs : List AVal} : h[b]? = some (.cells cur e fr) -> o b = some l -> frOk fr cur.size →
   cur.size = cap * sz -> xs.length <= cap -> cap <= maxLen -> noRefs xs = true →
   (∀ (i : Nat) (x : AVal), xs[i]? = some x -> Rep h S o (l.idx i) ((cur.toList.drop (i * sz)).take sz) x) -> Rep h S o l [.slice (some ⟨b, 0, none⟩) xs.length cap] (.lst true sz xs)
 | ptr {l} {b : Nat} {cur : Array Value} {e : TypeId} {fr : Nat × Nat} {x : AVal} : h[b]? = some (.cells cur e fr) -> o b = some l -> frOk fr cur.size →
   Rep h S o (l.idx 0) cur.toList x -> Rep h S o l [.pointer (some ⟨b, 0, none⟩)] (.ptr true x)
 | mp {l} {b clock : Nat} {es : Array MapEntry} : h[b]? = some (.map es clock) -> o b = some l -> Rep h S o l [.map (some b)] (.mp true (es.toList.map fun m => (m.key, m.val)))
 | fn {l} {f : FuncId} {cvs : Array Value} {caps : List AVal} : cvs.size = caps.length -> (∀ (i : Nat) (c : Value) (x : AVal), cvs[i]? = some c -> caps[i]? = some x -> Rep h S o (l.fld i) [c] x) →
   Rep h S o l [.func (.func f) #[] cvs] (.fn f caps)
 | hrefN {l m sz} : Rep h S o l [.slice none 0 0] (.href m sz 0 0)
 | href {l m} {b cap : Nat} {cur : Array Value} {e : TypeId} {fr : Nat × Nat} {sz lo n : Nat} : h[b]? = some (.cells cur e fr) -> o b = some m -> frOk fr cur.size →
   cur.size = (lo + cap) * sz -> n <= cap -> lo + cap <= maxLen -> Rep h S o l [.slice (some ⟨b, lo * sz, none⟩) n cap] (.href m sz lo n)
 | adr {l m} {b : Nat} {cur : Array Value} {e : TypeId} {fr : Nat × Nat} {i : Nat} {fs : List Nat} {off : Nat} : h[b]? = some (.cells cur e fr) -> o b = some m →
   Rep h S o l [.pointer (some ⟨b, off, none⟩)] (.adr m i fs off)
 | mref {l m} {b clock : Nat} {es : Array MapEntry} : h[b]? = some (.map es clock) -> o b = some m -> Rep h S o l [.map (some b)] (.mref m)
theorem Rep.undef {h : Array Obj} {S : Nat -> Prop} {o : Nat -> Option Loc} {l : Loc} {c : Value} (hc : c.oneCell' = true) : Rep h S o l [c] .undef := .shd (.undef hc)
theorem Rep.len {h : Array Obj} {S : Nat -> Prop} {o : Nat -> Option Loc} {l : Loc} {cs : List Value} {x : AVal} (r : Rep h S o l cs x) : cs.length = x.w := by
 induction r with
 | shd a => exact a.len
 | agg a _ ih => exact ws_flatten a ih
 | _ => rfl
theorem Rep.ones {h : Array Obj} {S : Nat -> Prop} {o : Nat -> Option Loc} {l : Loc} {cs : List Value} {x : AVal} (r : Rep h S o l cs x) : ∀ u ∈ cs, u.oneCell' = true := by
 induction r with
 | shd a => exact a.ones
 | agg a _ ih => exact mem_flatten_of a ih
 | _ => intro u hu; simp at hu; subst hu; rfl
theorem Rep.move {h h' : Array Obj} {S S' : Nat -> Prop} {o o' : Nat -> Option Loc} (d : Loc -> Bool) (hS : ∀ b, S b -> S' b /\ h'[b]? = h[b]?)
  (hR : ∀ b m, o b = some m -> d m = false -> o' b = some m /\ sameShape h h' b) {l : Loc} {cs : List Value} {x : AVal} (r : Rep h S o l cs x) :
  ∀ (l' : Loc), (∀ b q, o b = some (l.ext q) -> o' b = some (l'.ext q) /\ h'[b]? = h[b]?) -> Rep h' S' o' l' cs (killP d x) := by
 induction r with
 | shd a =>
  intro l' hO
  have a' := a.mono (h' := h') (S' := S') hS
  clear hO
  have : ∀ {cs x}, RepS h' S' cs x -> Rep h' S' o' l' cs (killP d x) := by
   clear a a' hS hR
   intro cs x a
   induction a generalizing l' with
   | agg a _ ih =>
    simp only [killP]
    refine .agg (by rw [killPs_map]; simpa using a) fun i c x hc hx => ?_
    rw [killPs_map, List.getElem?_map] at hx
    obtain ⟨y, hy, rfl⟩ := Option.map_eq_some_iff.1 hx
    exact ih i c y hc hy _
   | fn a _ ih =>
    simp only [killP]
    refine .fn (by rw [killPs_map]; simpa using a) fun i c x hc hx => ?_
    rw [killPs_map, List.getElem?_map] at hx
    obtain ⟨y, hy, rfl⟩ := Option.map_eq_some_iff.1 hx
    exact ih i c y hc hy _
   | undef a => exact .shd (.undef a)
   | lit a => exact .shd (.lit a)
   | ifc => exact .shd .ifc
   | emp a => exact .shd (.emp a)
   | lst a b c d e f _ => exact .shd (.lst a b c d e f)
   | ptr a b c d _ => exact .shd (.ptr a b c d)
   | mp a b => exact .shd (.mp a b)
   | mpNil => exact .shd .mpNil
  exact this a'
 | agg a _ ih =>
  intro l' hO
  simp only [killP]
  refine .agg (by rw [killPs_map]; simpa using a) fun i c x hc hx => ?_
  rw [killPs_map, List.getElem?_map] at hx
  obtain ⟨y, hy, rfl⟩ := Option.map_eq_some_iff.1 hx
  exact ih i c y hc hy (l'.fld i) fun b q hb => by
   rw [Loc.fld_ext] at hb ⊢; exact hO b _ hb
 | nil => intro l' _; exact .nil
 | lst a b c d e f g _ ih =>
  intro l' hO
  rename_i l b' cap cur t fr sz xs _
  have hb := hO b' [] (by rw [Loc.ext_nil]; exact b)
  rw [Loc.ext_nil] at hb
  refine .lst (hb.2.trans a) hb.1 c d e f g fun i x hx => ?_
  have := ih i x hx (l'.idx i) fun b q hb => by rw [Loc.idx_ext] at hb ⊢; exact hO b _ hb
  rwa [killP_noRef _ x (noRefs_get g hx)] at this
 | ptr a b c _ ih =>
  intro l' hO
  rename_i l b' cur t fr x _
  have hb := hO b' [] (by rw [Loc.ext_nil]; exact b)
  rw [Loc.ext_nil] at hb
  exact .ptr (hb.2.trans a) hb.1 c (ih (l'.idx 0) fun b q hb => by rw [Loc.idx_ext] at hb ⊢; exact hO b _ hb)
 | mp a b =>
  intro l' hO
  have hb := hO _ [] (by rw [Loc.ext_nil]; exact b)
  rw [Loc.ext_nil] at hb
  exact .mp (hb.2.trans a) hb.1
 | fn a _ ih =>
  intro l' hO
  simp only [killP]
  refine .fn (by rw [killPs_map]; simpa using a) fun i c x hc hx => ?_
  rw [killPs_map, List.getElem?_map] at hx
  obtain ⟨y, hy, rfl⟩ := Option.map_eq_some_iff.1 hx
  exact ih i c y hc hy (l'.fld i) fun b q hb => by rw [Loc.fld_ext] at hb ⊢; exact hO b _ hb
 | hrefN =>
  intro l' _
  simp only [killP]
  split
  ·exact .undef rfl
  ·exact .hrefN
 | href a b c e f g =>
  intro l' _
  rename_i m b' cap cur t fr sz lo n
  simp only [killP]
  split
  ·exact .undef rfl
  ·rename_i hd
   obtain ⟨h1, h2, _⟩ := hR _ _ b (by simpa using hd)
   obtain ⟨cur', h3, h4⟩ := h2 _ _ _ a
   exact .href h3 h1 (h4 ▸ c) (h4.trans e) f g
 | adr a b =>
  intro l' _
  simp only [killP]
  split
  ·exact .undef rfl
  ·rename_i hd
   obtain ⟨h1, h2, _⟩ := hR _ _ b (by simpa using hd)
   obtain ⟨cur', h3, h4⟩ := h2 _ _ _ a
   exact .adr h3 h1
 | mref a b =>
  intro l' _
  simp only [killP]
  split
  ·exact .undef rfl
  ·rename_i hd
   obtain ⟨h1, _, h2⟩ := hR _ _ b (by simpa using hd)
   obtain ⟨es', c', h3⟩ := h2 _ _ a
   exact .mref h3 h1
theorem Rep.copy {h : Array Obj} {S : Nat -> Prop} {o : Nat -> Option Loc} {l : Loc} {cs : List Value} {x : AVal} (r : Rep h S o l cs x) :
  ∀ l', Rep h S o l' cs (copyOut l x) := by
 induction r with
 | shd a =>
  rename_i l cs x
  intro l'
  have : ∀ {cs x}, RepS h S cs x -> ∀ l l', Rep h S o l' cs (copyOut l x) := by
   clear a
   intro cs x a
   induction a with
   | agg a _ ih =>
    intro l l'
    simp only [copyOut]
    refine .agg (by rw [copyOuts_length]; exact a) fun i c x hc hx => ?_
    rw [copyOuts_get] at hx
    obtain ⟨y, hy, rfl⟩ := Option.map_eq_some_iff.1 hx
    exact ih i c y hc hy _ _
   | undef a => exact fun _ _ => .shd (.undef a)
   | lit a => exact fun _ _ => .shd (.lit a)
   | ifc => exact fun _ _ => .shd .ifc
   | emp a => exact fun _ _ => .shd (.emp a)
   | lst a b c d e f _ => exact fun _ _ => .shd (.lst a b c d e f)
   | ptr a b c d _ => exact fun _ _ => .shd (.ptr a b c d)
   | mp a b => exact fun _ _ => .shd (.mp a b)
   | mpNil => exact fun _ _ => .shd .mpNil
   | fn a _ ih =>
    intro l l'
    simp only [copyOut]
    refine .fn (by rw [copyOuts_length]; exact a) fun i c x hc hx => ?_
    rw [copyOuts_get] at hx
    obtain ⟨y, hy, rfl⟩ := Option.map_eq_some_iff.1 hx
    exact ih i c y hc hy _ _
  exact this a l l'
 | agg a _ ih =>
  intro l'
  simp only [copyOut]
  refine .agg (by rw [copyOuts_length]; exact a) fun i c x hc hx => ?_
  rw [copyOuts_get] at hx
  obtain ⟨y, hy, rfl⟩ := Option.map_eq_some_iff.1 hx
  have := ih i c y hc hy (l'.fld i)
  simpa using this
 | nil => intro l'; exact .hrefN
 | lst a b c d e f g _ _ =>
  intro l'
  rename_i l b' cap cur t fr sz xs _ _
  simp only [copyOut]
  have := Rep.href (S := S) (l := l') (lo := 0) (n := xs.length) (cap := cap) a b c (by simpa using d) e (by simpa using f)
  simpa using this
 | ptr a b c _ _ => intro l'; exact .adr a b
 | mp a b => intro l'; exact .mref a b
 | fn a _ ih =>
  intro l'
  simp only [copyOut]
  refine .fn (by rw [copyOuts_length]; exact a) fun i c x hc hx => ?_
  rw [copyOuts_get] at hx
  obtain ⟨y, hy, rfl⟩ := Option.map_eq_some_iff.1 hx
  have := ih i c y hc hy (l'.fld i)
  simpa using this
 | hrefN => intro l'; exact .hrefN
 | href a b c d e f => intro l'; exact .href a b c d e f
 | adr a b => intro l'; exact .adr a b
 | mref a b => intro l'; exact .mref a b
end Go.VS
/- VS, second part: parts of what lies in memory, and what a store does to the whole. -/
set_option linter.unusedVariables false
set_option linter.unusedSimpArgs false
namespace Go.VS
theorem Rep.toShd {h : Array Obj} {S S' : Nat -> Prop} {o : Nat -> Option Loc} (hS : ∀ b, S b -> S' b) {l : Loc} {cs : List Value} {x : AVal} (r : Rep h S o l cs x) (n : noRef x = true)
  (hO : ∀ b q, o b = some (l.ext q) -> S' b) : RepS h S' cs (VS.toShd x) := by
 induction r with
 | shd a =>
  clear hO n
  induction a with
  | undef a => exact .undef a
  | lit a => exact .lit a
  | ifc => exact .ifc
  | agg a _ ih =>
   simp only [VS.toShd]
   refine .agg (by rw [toShds_map]; simpa using a) fun i c x hc hx => ?_
   rw [toShds_map, List.getElem?_map] at hx
   obtain ⟨y, hy, rfl⟩ := Option.map_eq_some_iff.1 hx
   exact ih i c y hc hy
  | emp a => exact .emp a
  | lst a b c d e _ ih =>
   simp only [VS.toShd]
   have hl : ∀ xs : List AVal, (toShds xs).length = xs.length := fun xs => by rw [toShds_map]; simp
   rw [<- hl]
   refine .lst a (hS _ b) (by rw [hl]; exact c) (by rw [hl]; exact d) e fun i x hx => ?_
   rw [toShds_map, List.getElem?_map] at hx
   obtain ⟨y, hy, rfl⟩ := Option.map_eq_some_iff.1 hx
   exact ih i y hy
  | ptr a b c _ ih =>
   simp only [VS.toShd]
   exact .ptr a (hS _ b) (by rw [toShd_w]; exact c) (by rw [toShd_w]; exact ih)
  | mp a b => exact .mp a (hS _ b)
  | mpNil => exact .mpNil
  | fn a _ ih =>
   simp only [VS.toShd]
   refine .fn (by rw [toShds_map]; simpa using a) fun i c x hc hx => ?_
   rw [toShds_map, List.getElem?_map] at hx
   obtain ⟨y, hy, rfl⟩ := Option.map_eq_some_iff.1 hx
   exact ih i c y hc hy
 | agg a _ ih =>
  simp only [noRef] at n
  simp only [VS.toShd]
  refine .agg (by rw [toShds_map]; simpa using a) fun i c x hc hx => ?_
  rw [toShds_map, List.getElem?_map] at hx
  obtain ⟨y, hy, rfl⟩ := Option.map_eq_some_iff.1 hx
  exact ih i c y hc hy (noRefs_get n hy) fun b q hb => hO b _ (by rw [Loc.fld_ext] at hb; exact hb)
 | nil => exact .emp (Nat.zero_le _)
 | lst a b c d e f g _ ih =>
  rename_i l b' cap cur t fr sz xs _
  simp only [VS.toShd]
  have hl : ∀ xs : List AVal, (toShds xs).length = xs.length := fun xs => by rw [toShds_map]; simp
  rw [<- hl]
  refine .lst a (hO _ [] (by rw [Loc.ext_nil]; exact b)) (by rw [hl, d, Nat.zero_add]; exact Nat.mul_le_mul_right _ e) (by rw [hl]; exact e) f fun i x hx => ?_
  rw [toShds_map, List.getElem?_map] at hx
  obtain ⟨y, hy, rfl⟩ := Option.map_eq_some_iff.1 hx
  rw [Nat.zero_add]
  exact ih i y hy (noRefs_get g hy) fun b q hb => hO b _ (by rw [Loc.idx_ext] at hb; exact hb)
 | ptr a b c hr ih =>
  rename_i l b' cur t fr x
  simp only [noRef] at n
  simp only [VS.toShd]
  have hlen := hr.len
  rw [Array.length_toList] at hlen
  have := ih n fun b q hb => hO b _ (by rw [Loc.idx_ext] at hb; exact hb)
  refine .ptr a (hO _ [] (by rw [Loc.ext_nil]; exact b)) (by rw [toShd_w]; omega) ?_
  rw [toShd_w, List.drop_zero, List.take_of_length_le (by rw [Array.length_toList]; omega)]
  exact this
 | mp a b => exact .mp a (hO _ [] (by rw [Loc.ext_nil]; exact b))
 | fn a _ ih =>
  simp only [noRef] at n
  simp only [VS.toShd]
  refine .fn (by rw [toShds_map]; simpa using a) fun i c x hc hx => ?_
  rw [toShds_map, List.getElem?_map] at hx
  obtain ⟨y, hy, rfl⟩ := Option.map_eq_some_iff.1 hx
  exact ih i c y hc hy (noRefs_get n hy) fun b q hb => hO b _ (by rw [Loc.fld_ext] at hb; exact hb)
 | hrefN => simp [noRef] at n
 | href => simp [noRef] at n
 | adr => simp [noRef] at n
 | mref => simp [noRef] at n
theorem Rep.agg_inv {h : Array Obj} {S : Nat -> Prop} {o : Nat -> Option Loc} {l : Loc} {cs : List Value} {xs : List AVal} (r : Rep h S o l cs (.agg xs)) :
  ∃ css : List (List Value), css.length = xs.length /\ cs = css.flatten /\ ∀ (i : Nat) (c : List Value) (x : AVal), css[i]? = some c -> xs[i]? = some x -> Rep h S o (l.fld i) c x := by
 cases r with
 | shd a => cases a with | agg a b => exact ⟨_, a, rfl, fun i c x hc hx => .shd (b i c x hc hx)⟩
 | agg a b => exact ⟨_, a, rfl, b⟩
theorem flatten_at : ∀ {css : List (List Value)} {xs : List AVal}, css.length = xs.length -> (∀ (i : Nat) (c : List Value) (x : AVal), css[i]? = some c -> xs[i]? = some x -> c.length = x.w) →
  ∀ {k : Nat} {c : List Value}, css[k]? = some c -> css.flatten = (css.take k).flatten ++ (c ++ (css.drop (k + 1)).flatten) /\ (css.take k).flatten.length = AVal.ws (xs.take k)
 | [], _, _, _, _, _, hc => by simp at hc
 | _ :: _, [], h, _, _, _, _ => by simp at h
 | d :: css, x :: xs, h, hl, 0, c, hc => by
  simp at hc; subst hc; simp [AVal.ws]
 | d :: css, x :: xs, h, hl, k + 1, c, hc => by
  have ih := flatten_at (css := css) (xs := xs) (by simpa using h) (fun i c x hc hx => hl (i + 1) c x (by simpa using hc) (by simpa using hx)) (k := k) (c := c) (by simpa using hc)
  have h1 := hl 0 d x rfl rfl
  refine ⟨by rw [List.flatten_cons, ih.1]; simp, ?_⟩
  rw [List.take_succ_cons, List.take_succ_cons, List.flatten_cons, List.length_append, ih.2, h1]
  rfl
def Loc.flds (l : Loc) (fs : List Nat) : Loc := l.ext (fs.map .fld)
theorem Loc.flds_nil (l : Loc) : l.flds [] = l := by simp [Loc.flds, Loc.ext_nil]
theorem Loc.flds_cons (l : Loc) (k : Nat) (fs : List Nat) : (l.fld k).flds fs = l.flds (k :: fs) := by simp [Loc.flds, Loc.fld_ext]
theorem Rep.getF {h : Array Obj} {S : Nat -> Prop} {o : Nat -> Option Loc} : ∀ {fs : List Nat} {l : Loc} {cs : List Value} {x : AVal} (r : Rep h S o l cs x) {off : Nat} {y : AVal}, VS.getF fs x = some (off, y) →
  off + y.w <= cs.length /\ Rep h S o (l.flds fs) ((cs.drop off).take y.w) y
 | [], l, cs, x, r, off, y, hg => by
  simp only [VS.getF, Option.some.injEq, Prod.mk.injEq] at hg
  obtain ⟨rfl, rfl⟩ := hg
  rw [List.drop_zero, <- r.len, List.take_length, Loc.flds_nil]
  exact ⟨by omega, r⟩
 | k :: fs, l, cs, x, r, off, y, hg => by
  cases x <;> simp only [VS.getF] at hg <;> try (cases hg; done)
  rename_i xs
  obtain ⟨css, h1, rfl, h2⟩ := r.agg_inv
  split at hg
  ·rename_i x hx
   split at hg
   ·rename_i o' y' hy
    simp only [Option.some.injEq, Prod.mk.injEq] at hg
    obtain ⟨rfl, rfl⟩ := hg
    have hk : k < css.length := h1 ▸ (List.getElem?_eq_some_iff.1 hx).1
    have hc : css[k]? = some css[k] := List.getElem?_eq_getElem hk
    have rk := h2 k _ x hc hx
    obtain ⟨i1, i2⟩ := rk.getF hy
    obtain ⟨e1, e2⟩ := flatten_at h1 (fun i c x hc hx => (h2 i c x hc hx).len) hc
    rw [Loc.flds_cons] at i2
    rw [e1]
    refine ⟨by simp only [List.length_append, e2]; omega, ?_⟩
    have : ((List.take k css).flatten ++ (css[k] ++ (css.drop (k + 1)).flatten)).drop (AVal.ws (List.take k xs) + o') = (css[k]).drop o' ++ (css.drop (k + 1)).flatten := by
     rw [<- e2, List.drop_append, List.drop_of_length_le (by omega), List.nil_append, Nat.add_sub_cancel_left, List.drop_append]
     congr 1
     rw [show o' - css[k].length = 0 by omega, List.drop_zero]
    rw [this, List.take_append_of_le_length (by rw [List.length_drop]; omega)]
    exact i2
   ·cases hg
  ·cases hg
structure Kept (h h' : Array Obj) (S S' : Nat -> Prop) (o o' : Nat -> Option Loc) (d : Loc -> Bool) (l : Loc) (p : List Step) : Prop where
 shd : ∀ b, S b -> S' b /\ h'[b]? = h[b]?
 refs : ∀ b m, o b = some m -> d m = false -> o' b = some m /\ sameShape h h' b
 own : ∀ b q, o b = some (l.ext q) -> ¬ p <+: q -> o' b = some (l.ext q) /\ h'[b]? = h[b]?
theorem Kept.down {h h' : Array Obj} {S S' : Nat -> Prop} {o o' : Nat -> Option Loc} {d : Loc -> Bool} {l : Loc} {s : Step} {p : List Step} (k : Kept h h' S S' o o' d l (s :: p)) :
  Kept h h' S S' o o' d (l.ext [s]) p :=
 ⟨k.shd, k.refs, fun b q hb hq => by
  rw [Loc.ext_ext] at hb ⊢
  exact k.own b _ hb fun hp => hq (by simpa using hp)⟩
theorem Kept.side {h h' : Array Obj} {S S' : Nat -> Prop} {o o' : Nat -> Option Loc} {d : Loc -> Bool} {l : Loc} {s t : Step} {p : List Step} (k : Kept h h' S S' o o' d l (s :: p)) (ht : t ≠ s)
  {cs : List Value} {x : AVal} (r : Rep h S o (l.ext [t]) cs x) : Rep h' S' o' (l.ext [t]) cs (killP d x) :=
 r.move d k.shd k.refs _ fun b q hb => by
  rw [Loc.ext_ext] at hb ⊢
  exact k.own b _ hb fun hp => ht (by simpa using (List.cons_prefix_cons.1 hp).1.symm)
theorem Loc.ext_fld (l : Loc) (k : Nat) : l.ext [.fld k] = l.fld k := rfl
theorem Loc.ext_idx (l : Loc) (k : Nat) : l.ext [.idx k] = l.idx k := rfl
theorem flatten_set {css : List (List Value)} {k : Nat} {c c' : List Value} (hc : css[k]? = some c) :
  (css.set k c').flatten = (css.take k).flatten ++ (c' ++ (css.drop (k + 1)).flatten) := by
 have hk : k < css.length := (List.getElem?_eq_some_iff.1 hc).1
 rw [List.set_eq_take_append_cons_drop, if_pos hk]
 simp
theorem splice_part {A B C : List Value} {off w : Nat} (h : off + w <= B.length) (D : List Value) :
  (A ++ (B ++ C)).take (A.length + off) ++ D ++ (A ++ (B ++ C)).drop (A.length + off + w) = A ++ ((B.take off ++ D ++ B.drop (off + w)) ++ C) := by
 have h1 : (A ++ (B ++ C)).take (A.length + off) = A ++ B.take off := by
  rw [List.take_append, List.take_of_length_le (by omega), Nat.add_sub_cancel_left, List.take_append_of_le_length (by omega)]
 have h2 : (A ++ (B ++ C)).drop (A.length + off + w) = B.drop (off + w) ++ C := by
  rw [show A.length + off + w = A.length + (off + w) by omega, List.drop_append, List.drop_of_length_le (by omega), List.nil_append, Nat.add_sub_cancel_left, List.drop_append,
   show off + w - B.length = 0 by omega, List.drop_zero]
 rw [h1, h2]
 simp
theorem Rep.putF {h h' : Array Obj} {S S' : Nat -> Prop} {o o' : Nat -> Option Loc} {d : Loc -> Bool} : ∀ {fs : List Nat} {l : Loc} {cs : List Value} {x : AVal} (r : Rep h S o l cs x) {off : Nat} {y : AVal}, VS.getF fs x = some (off, y) →
  Kept h h' S S' o o' d l (fs.map .fld) -> ∀ {cy : List Value} {y' : AVal}, y'.w = y.w -> Rep h' S' o' (l.flds fs) cy y' →
  Rep h' S' o' l (cs.take off ++ cy ++ cs.drop (off + y.w)) (VS.putF fs y' (killP d x))
 | [], l, cs, x, r, off, y, hg, k, cy, y', hw, ry => by
  simp only [VS.getF, Option.some.injEq, Prod.mk.injEq] at hg
  obtain ⟨rfl, rfl⟩ := hg
  rw [List.take_zero, List.nil_append, List.drop_of_length_le (by rw [r.len]; omega), List.append_nil]
  rw [Loc.flds_nil] at ry
  exact ry
 | f :: fs, l, cs, x, r, off, y, hg, k, cy, y', hw, ry => by
  cases x <;> simp only [VS.getF] at hg <;> try (cases hg; done)
  rename_i xs
  obtain ⟨css, h1, rfl, h2⟩ := r.agg_inv
  split at hg
  ·rename_i x hx
   split at hg
   ·rename_i o' y' hy
    simp only [Option.some.injEq, Prod.mk.injEq] at hg
    obtain ⟨rfl, rfl⟩ := hg
    have hk : f < css.length := h1 ▸ (List.getElem?_eq_some_iff.1 hx).1
    have hc : css[f]? = some css[f] := List.getElem?_eq_getElem hk
    have rk := h2 f _ x hc hx
    rw [<- Loc.flds_cons] at ry
    have ih := Rep.putF rk hy (by have := k.down; rwa [Loc.ext_fld] at this) hw ry
    have i1 := (rk.getF hy).1
    obtain ⟨e1, e2⟩ := flatten_at h1 (fun i c x hc hx => (h2 i c x hc hx).len) hc
    simp only [killP, VS.putF]
    rw [e1, <- e2, splice_part i1, <- flatten_set hc]
    refine .agg (by simp [killPs_map, h1]) fun i c z hcc hz => ?_
    rw [killPs_map] at hz
    by_cases hi : i = f
    ·subst hi
     rw [List.getElem?_set_self hk, Option.some.injEq] at hcc
     subst hcc
     rw [List.getElem?_modify_eq, List.getElem?_map, hx] at hz
     simp at hz
     subst hz
     exact ih
    ·rw [List.getElem?_set_ne (Ne.symm hi)] at hcc
     rw [List.getElem?_modify_ne _ _ (Ne.symm hi), List.getElem?_map] at hz
     obtain ⟨z', hz', rfl⟩ := Option.map_eq_some_iff.1 hz
     exact Kept.side k (t := .fld i) (by simp [hi]) (h2 i c z' hcc hz')
   ·cases hg
  ·cases hg
end Go.VS
/- VS, third part: a node of a tree turned in its place; a store into the row behind a node. -/
set_option linter.unusedVariables false
set_option linter.unusedSimpArgs false
namespace Go.VS
def viaLst : List Step -> AVal -> Bool
 | .fld k :: p, .agg xs => match xs[k]? with | some x => viaLst p x | none => false
 | .fld k :: p, .tup xs => match xs[k]? with | some x => viaLst p x | none => false
 | .idx _ :: _, .lst _ _ _ => true
 | .idx 0 :: p, .ptr _ x => viaLst p x
 | _, _ => false
theorem noRefs_modify {f : AVal -> AVal} : ∀ {xs : List AVal} {i : Nat}, noRefs xs = true -> (∀ x, xs[i]? = some x -> noRef (f x) = true) -> noRefs (xs.modify i f) = true
 | [], i, _, _ => by simp [noRefs]
 | x :: xs, 0, h, hf => by
  simp only [noRefs, Bool.and_eq_true] at h
  simp [List.modify_zero_cons, noRefs, h.2, hf x rfl]
 | x :: xs, i + 1, h, hf => by
  simp only [noRefs, Bool.and_eq_true] at h
  simp only [List.modify_succ_cons, noRefs, h.1, Bool.true_and]
  exact noRefs_modify h.2 fun y hy => hf y (by simpa using hy)
theorem noRef_putP : ∀ {p : List Step} {x y : AVal}, noRef x = true -> noRef y = true -> noRef (putP p y x) = true
 | [], x, y, hx, hy => hy
 | .fld k :: p, x, y, hx, hy => by
  cases x <;> try exact hx
  ·simp only [putP, noRef] at *
   exact noRefs_modify hx fun z hz => noRef_putP (noRefs_get hx hz) hy
  ·simp only [putP, noRef] at *
   exact noRefs_modify hx fun z hz => noRef_putP (noRefs_get hx hz) hy
 | .idx i :: p, x, y, hx, hy => by
  cases x
  case lst own sz xs =>
   simp only [putP, noRef] at *
   exact noRefs_modify hx fun z hz => noRef_putP (noRefs_get hx hz) hy
  case ptr own x =>
   cases i with
   | zero => simp only [putP, noRef] at *; exact noRef_putP hx hy
   | succ i => simpa [putP] using hx
  all_goals (cases i <;> exact hx)
theorem Rep.lst_inv {h : Array Obj} {S : Nat -> Prop} {o : Nat -> Option Loc} {l : Loc} {cs : List Value} {sz : Nat} {xs : List AVal} (r : Rep h S o l cs (.lst true sz xs)) :
  (cs = [.slice none 0 0] /\ xs = []) \/ ∃ (b cap : Nat) (cur : Array Value) (e : TypeId) (fr : Nat × Nat), cs = [.slice (some ⟨b, 0, none⟩) xs.length cap] /\ h[b]? = some (.cells cur e fr) /\ o b = some l /\ frOk fr cur.size ∧
   cur.size = cap * sz /\ xs.length <= cap /\ cap <= maxLen /\ noRefs xs = true /\ (∀ (i : Nat) (x : AVal), xs[i]? = some x -> Rep h S o (l.idx i) ((cur.toList.drop (i * sz)).take sz) x) := by
 cases r with
 | shd a => cases a
 | nil => exact .inl ⟨rfl, rfl⟩
 | lst a b c d e f g k => exact .inr ⟨_, _, _, _, _, rfl, a, b, c, d, e, f, g, k⟩
theorem Rep.ptr_inv {h : Array Obj} {S : Nat -> Prop} {o : Nat -> Option Loc} {l : Loc} {cs : List Value} {x : AVal} (r : Rep h S o l cs (.ptr true x)) :
  ∃ (b : Nat) (cur : Array Value) (e : TypeId) (fr : Nat × Nat), cs = [.pointer (some ⟨b, 0, none⟩)] /\ h[b]? = some (.cells cur e fr) /\ o b = some l /\ frOk fr cur.size /\ Rep h S o (l.idx 0) cur.toList x := by
 cases r with
 | shd a => cases a
 | ptr a b c d => exact ⟨_, _, _, _, rfl, a, b, c, d⟩
theorem RepS.lst_inv {h : Array Obj} {S : Nat -> Prop} {cs : List Value} {own : Bool} {sz : Nat} {xs : List AVal} (r : RepS h S cs (.lst own sz xs)) :
  own = false /\ ((∃ (ad : Option Addr) (cap : Nat), cs = [.slice ad 0 cap] /\ xs = [] /\ cap <= maxLen) \/ ∃ (b off cap : Nat) (cur : Array Value) (e : TypeId) (fr : Nat × Nat), cs = [.slice (some ⟨b, off, none⟩) xs.length cap] /\ h[b]? = some (.cells cur e fr) /\ S b ∧
   off + xs.length * sz <= cur.size /\ xs.length <= cap /\ cap <= maxLen /\ (∀ (i : Nat) (x : AVal), xs[i]? = some x -> RepS h S ((cur.toList.drop (off + i * sz)).take sz) x)) := by
 cases r with
 | emp a => exact ⟨rfl, .inl ⟨_, _, rfl, rfl, a⟩⟩
 | lst a b c d e f => exact ⟨rfl, .inr ⟨_, _, _, _, _, _, rfl, a, b, c, d, e, f⟩⟩
theorem RepS.ptr_inv {h : Array Obj} {S : Nat -> Prop} {cs : List Value} {own : Bool} {x : AVal} (r : RepS h S cs (.ptr own x)) :
  own = false /\ ∃ (b off : Nat) (cur : Array Value) (e : TypeId) (fr : Nat × Nat), cs = [.pointer (some ⟨b, off, none⟩)] /\ h[b]? = some (.cells cur e fr) /\ S b ∧
   off + x.w <= cur.size /\ RepS h S ((cur.toList.drop off).take x.w) x := by
 cases r with
 | ptr a b c d => exact ⟨rfl, _, _, _, _, _, rfl, a, b, c, d⟩
def ownNode : AVal -> Bool
 | .lst true _ _ => true
 | .ptr true _ => true
 | .mp true _ => true
 | _ => false
theorem RepS.not_own {h : Array Obj} {S : Nat -> Prop} {cs : List Value} {x : AVal} (r : RepS h S cs x) : ownNode x = false := by
 cases r <;> rfl
theorem RepS.part {h : Array Obj} {S : Nat -> Prop} : ∀ {p : List Step} {cs : List Value} {x y : AVal}, RepS h S cs x -> getP p x = some y -> ∃ c, RepS h S c y
 | [], cs, x, y, r, hg => by simp only [getP, Option.some.injEq] at hg; subst hg; exact ⟨_, r⟩
 | .fld f :: p, cs, x, y, r, hg => by
  cases r with
  | @agg css xs a b =>
   simp only [getP] at hg
   obtain ⟨x, hx, hgx⟩ := Option.bind_eq_some_iff.1 hg
   clear hg
   have hk : f < css.length := a ▸ (List.getElem?_eq_some_iff.1 hx).1
   exact (b f _ x (List.getElem?_eq_getElem hk) hx).part hgx
  | _ => simp [getP] at hg
 | .idx i :: p, cs, x, y, r, hg => by
  cases r with
  | lst a b c d e f =>
   simp only [getP] at hg
   obtain ⟨x, hx, hgx⟩ := Option.bind_eq_some_iff.1 hg
   clear hg
   exact (f i x hx).part hgx
  | ptr a b c d =>
   cases i with
   | zero => simp only [getP] at hg; exact d.part hg
   | succ i => simp [getP] at hg
  | emp a => simp [getP] at hg
  | _ => cases i <;> simp [getP] at hg
theorem Rep.deep {h h' : Array Obj} {S S' : Nat -> Prop} {o o' : Nat -> Option Loc} {d : Loc -> Bool} : ∀ {p : List Step} {l : Loc} {cs : List Value} {x : AVal}, Rep h S o l cs x -> ∀ {y y' : AVal}, getP p x = some y -> ownNode y = true →
  (noRef y' = true \/ viaLst p x = false) -> (∀ c, Rep h S o (l.ext p) c y -> Rep h' S' o' (l.ext p) c y') -> Kept h h' S S' o o' d l p -> Rep h' S' o' l cs (putP p y' (killP d x))
 | [], l, cs, x, r, y, y', hg, ho, hn, hy, k => by
  simp only [getP, Option.some.injEq] at hg
  subst hg
  rw [Loc.ext_nil] at hy
  exact hy _ r
 | .fld f :: p, l, cs, x, r, y, y', hg, ho, hn, hy, k => by
  cases x with
  | agg xs =>
   simp only [getP] at hg
   obtain ⟨x, hx, hgx⟩ := Option.bind_eq_some_iff.1 hg
   clear hg
   obtain ⟨css, h1, rfl, h2⟩ := r.agg_inv
   have hk : f < css.length := h1 ▸ (List.getElem?_eq_some_iff.1 hx).1
   simp only [killP, putP]
   refine .agg (by simp [killPs_map, h1]) fun i c z hcc hz => ?_
   rw [killPs_map] at hz
   by_cases hi : i = f
   ·subst hi
    rw [List.getElem?_modify_eq, List.getElem?_map, hx] at hz
    simp at hz
    subst hz
    refine Rep.deep (h2 i c x hcc hx) hgx ho (by simpa [viaLst, hx] using hn) (fun c hc => ?_) (by have := k.down; rwa [Loc.ext_fld] at this)
    rw [<- Loc.ext_fld, Loc.ext_ext] at hc ⊢
    exact hy c hc
   ·rw [List.getElem?_modify_ne _ _ (Ne.symm hi), List.getElem?_map] at hz
    obtain ⟨z', hz', rfl⟩ := Option.map_eq_some_iff.1 hz
    exact Kept.side k (t := .fld i) (by simp [hi]) (h2 i c z' hcc hz')
  | tup xs =>
   cases r with | shd a => cases a
  | _ => simp [getP] at hg
 | .idx i :: p, l, cs, x, r, y, y', hg, ho, hn, hy, k => by
  cases r with
  | shd a =>
   obtain ⟨c, hc⟩ := a.part hg
   rw [hc.not_own] at ho
   cases ho
  | lst a b c e f g n m =>
   rename_i b' cap cur t fr sz xs
   simp only [getP] at hg
   obtain ⟨x, hx, hgx⟩ := Option.bind_eq_some_iff.1 hg
   clear hg
   have hb := k.own b' [] (by rw [Loc.ext_nil]; exact b) (by simp)
   rw [Loc.ext_nil] at hb
   have hn' : noRef y' = true := by simpa [viaLst] using hn
   have hlen : (xs.modify i (putP p y')).length = xs.length := by simp
   simp only [killP, putP]
   rw [<- hlen]
   refine .lst (hb.2.trans a) hb.1 c e (by rw [hlen]; exact f) g (noRefs_modify n fun z hz => noRef_putP (noRefs_get n hz) hn') fun j z hz => ?_
   by_cases hi : j = i
   ·subst hi
    rw [List.getElem?_modify_eq, hx] at hz
    simp at hz
    subst hz
    have := Rep.deep (m j x hx) hgx ho (.inl hn') (fun c hc => ?_) (by have := k.down; rwa [Loc.ext_idx] at this)
    ·rwa [killP_noRef _ _ (noRefs_get n hx)] at this
    ·rw [<- Loc.ext_idx, Loc.ext_ext] at hc ⊢
     exact hy c hc
   ·rw [List.getElem?_modify_ne _ _ (Ne.symm hi)] at hz
    have := Kept.side k (t := .idx j) (by simp [hi]) (m j z hz)
    rwa [killP_noRef _ _ (noRefs_get n hz)] at this
  | ptr a b c e =>
   rename_i b' cur t fr x
   cases i with
   | succ i => simp [getP] at hg
   | zero =>
    simp only [getP] at hg
    have hb := k.own b' [] (by rw [Loc.ext_nil]; exact b) (by simp)
    rw [Loc.ext_nil] at hb
    simp only [killP, putP]
    refine .ptr (hb.2.trans a) hb.1 c (Rep.deep e hg ho (by simpa [viaLst] using hn) (fun c hc => ?_) (by have := k.down; rwa [Loc.ext_idx] at this))
    rw [<- Loc.ext_idx, Loc.ext_ext] at hc ⊢
    exact hy c hc
  | nil => simp [getP] at hg
  | _ => cases i <;> simp [getP] at hg
theorem Rep.node {h : Array Obj} {S : Nat -> Prop} {o : Nat -> Option Loc} : ∀ {p : List Step} {l : Loc} {cs : List Value} {x : AVal}, Rep h S o l cs x -> ∀ {y : AVal}, getP p x = some y -> ownNode y = true -> ∃ c, Rep h S o (l.ext p) c y
 | [], l, cs, x, r, y, hg, ho => by
  simp only [getP, Option.some.injEq] at hg
  subst hg
  rw [Loc.ext_nil]
  exact ⟨_, r⟩
 | .fld f :: p, l, cs, x, r, y, hg, ho => by
  cases x with
  | agg xs =>
   simp only [getP] at hg
   obtain ⟨x, hx, hgx⟩ := Option.bind_eq_some_iff.1 hg
   clear hg
   obtain ⟨css, h1, rfl, h2⟩ := r.agg_inv
   have hk : f < css.length := h1 ▸ (List.getElem?_eq_some_iff.1 hx).1
   have := (h2 f _ x (List.getElem?_eq_getElem hk) hx).node hgx ho
   rwa [<- Loc.ext_fld, Loc.ext_ext] at this
  | tup xs => cases r with | shd a => cases a
  | _ => simp [getP] at hg
 | .idx i :: p, l, cs, x, r, y, hg, ho => by
  cases r with
  | shd a =>
   obtain ⟨c, hc⟩ := a.part hg
   rw [hc.not_own] at ho
   cases ho
  | lst a b c e f g n m =>
   simp only [getP] at hg
   obtain ⟨x, hx, hgx⟩ := Option.bind_eq_some_iff.1 hg
   clear hg
   have := (m i x hx).node hgx ho
   rwa [<- Loc.ext_idx, Loc.ext_ext] at this
  | ptr a b c e =>
   cases i with
   | succ i => simp [getP] at hg
   | zero =>
    simp only [getP] at hg
    have := e.node hg ho
    rwa [<- Loc.ext_idx, Loc.ext_ext] at this
  | nil => simp [getP] at hg
  | _ => cases i <;> simp [getP] at hg
def nodeAt (i : Nat) (fs : List Nat) : AVal -> Option (Nat × AVal)
 | .lst true sz xs => match xs[i]? with
  | some x => match getF fs x with
   | some (off, y) => some (i * sz + off, y)
   | none => none
  | none => none
 | .ptr true x => if i = 0 then getF fs x else none
 | _ => none
def nodePut (i : Nat) (fs : List Nat) (y' : AVal) (d : Loc -> Bool) : AVal -> AVal
 | .lst true sz xs => .lst true sz (xs.modify i (putF fs y'))
 | .ptr true x => .ptr true (putF fs y' (killP d x))
 | x => x
theorem noRef_putF : ∀ {fs : List Nat} {x y : AVal}, noRef x = true -> noRef y = true -> noRef (putF fs y x) = true
 | [], x, y, hx, hy => hy
 | k :: fs, x, y, hx, hy => by
  cases x <;> try exact hx
  simp only [putF, noRef] at *
  exact noRefs_modify hx fun z hz => noRef_putF (noRefs_get hx hz) hy
theorem drop_take_splice_in {C D : List Value} {a n off w : Nat} (h1 : off + w <= n) (h2 : a + n <= C.length) (hD : D.length = w) :
  ((C.take (a + off) ++ D ++ C.drop (a + off + w)).drop a).take n = ((C.drop a).take n).take off ++ D ++ ((C.drop a).take n).drop (off + w) := by
 apply List.ext_getElem?
 intro j
 simp only [List.getElem?_take, List.getElem?_drop, List.getElem?_append, List.length_take, List.length_append, List.length_drop, hD]
 repeat' split
 all_goals first
  | rfl
  | omega
  | (congr 1; omega)
theorem drop_take_splice_out {C D : List Value} {a n b w : Nat} (h1 : a + n <= b \/ b + w <= a) (h2 : b + w <= C.length) (hD : D.length = w) :
  ((C.take b ++ D ++ C.drop (b + w)).drop a).take n = (C.drop a).take n := by
 apply List.ext_getElem?
 intro j
 simp only [List.getElem?_take, List.getElem?_drop, List.getElem?_append, List.length_take, List.length_append, hD]
 repeat' split
 all_goals first
  | rfl
  | omega
  | (congr 1; omega)
def spliced (cur : Array Value) (at_ : Nat) (cy : List Value) : List Value := cur.toList.take at_ ++ cy ++ cur.toList.drop (at_ + cy.length)
theorem spliced_length (cur : Array Value) (at_ : Nat) (cy : List Value) (h : at_ + cy.length <= cur.size) : (spliced cur at_ cy).length = cur.size := by
 simp [spliced]; omega
structure KeptIn (h h' : Array Obj) (S S' : Nat -> Prop) (o o' : Nat -> Option Loc) (d : Loc -> Bool) (l : Loc) (i : Nat) (fs : List Nat) : Prop where
 shd : ∀ b, S b -> S' b /\ h'[b]? = h[b]?
 refs : ∀ b m, o b = some m -> d m = false -> o' b = some m /\ sameShape h h' b
 own : ∀ b q, o b = some (l.ext q) -> q ≠ [] -> ¬ (.idx i :: fs.map .fld) <+: q -> o' b = some (l.ext q) /\ h'[b]? = h[b]?
 self : ∀ b, o b = some l -> o' b = some l
theorem KeptIn.kept {h h' : Array Obj} {S S' : Nat -> Prop} {o o' : Nat -> Option Loc} {d : Loc -> Bool} {l : Loc} {i : Nat} {fs : List Nat} (k : KeptIn h h' S S' o o' d l i fs) :
  Kept h h' S S' o o' d (l.idx i) (fs.map .fld) :=
 ⟨k.shd, k.refs, fun b q hb hq => by
  rw [Loc.idx_ext] at hb ⊢
  exact k.own b _ hb (by simp) fun hp => hq (by simpa using hp)⟩
theorem Rep.store {h h' : Array Obj} {S S' : Nat -> Prop} {o o' : Nat -> Option Loc} {d : Loc -> Bool} {l : Loc} {c : List Value} {x : AVal} (r : Rep h S o l c x) {i : Nat} {fs : List Nat} {off : Nat} {y y' : AVal} {cy : List Value}
  (hg : nodeAt i fs x = some (off, y)) (hw : y'.w = y.w) (hn : noRef y' = true \/ (match x with | .ptr _ _ => True | _ => False)) (k : KeptIn h h' S S' o o' d l i fs)
  (ry : Rep h' S' o' ((l.idx i).flds fs) cy y')
  (hh : ∀ b cur e fr, o b = some l -> h[b]? = some (.cells cur e fr) -> ∃ cur', h'[b]? = some (.cells cur' e fr) /\ cur'.toList = spliced cur off cy) : Rep h' S' o' l c (nodePut i fs y' d x) := by
 have hcy : cy.length = y.w := by rw [ry.len, hw]
 cases x with
 | lst own sz xs =>
  cases own with
  | false => simp [nodeAt] at hg
  | true =>
   rcases r.lst_inv with ⟨rfl, rfl⟩ | ⟨b, cap, cur, e, fr, rfl, hb, ho, hfr, hsz, hlen, hcap, hnr, hm⟩
   ·simp [nodeAt] at hg
   ·simp only [nodeAt] at hg
    split at hg
    ·rename_i x hx
     split at hg
     ·rename_i off' y0 hy0
      simp only [Option.some.injEq, Prod.mk.injEq] at hg
      obtain ⟨rfl, rfl⟩ := hg
      have rx := hm i x hx
      obtain ⟨hfit, _⟩ := rx.getF hy0
      have hi : i < xs.length := (List.getElem?_eq_some_iff.1 hx).1
      have hisz : i * sz + sz <= cur.size := by
       rw [hsz, show i * sz + sz = (i + 1) * sz by rw [Nat.add_mul, Nat.one_mul]]
       exact Nat.mul_le_mul_right _ (by omega)
      have hfit' : off' + y0.w <= sz := by
       have := rx.len
       simp at hfit this
       omega
      obtain ⟨cur', hb', hcur'⟩ := hh b cur e fr ho hb
      have hsize : cur'.size = cur.size := by
       rw [<- Array.length_toList, hcur', spliced_length]
       omega
      have hn' : noRef y' = true := by simpa using hn
      simp only [nodePut]
      have hlen' : (xs.modify i (VS.putF fs y')).length = xs.length := by simp
      rw [<- hlen']
      refine .lst hb' (k.self b ho) (hsize ▸ hfr) (hsize.trans hsz) (by omega) hcap (noRefs_modify hnr fun z hz => noRef_putF (noRefs_get hnr hz) hn') fun j z hz => ?_
      rw [hcur']
      by_cases hji : j = i
      ·subst hji
       rw [List.getElem?_modify_eq, hx] at hz
       simp at hz
       subst hz
       have := rx.putF hy0 k.kept hw ry
       rw [killP_noRef _ _ (noRefs_get hnr hx)] at this
       unfold spliced
       rw [hcy, drop_take_splice_in hfit' (by simpa using hisz) hcy]
       exact this
      ·rw [List.getElem?_modify_ne _ _ (Ne.symm hji)] at hz
       have hj : j < xs.length := (List.getElem?_eq_some_iff.1 hz).1
       unfold spliced
       rw [hcy, drop_take_splice_out ?_ (by simp; omega) hcy]
       ·have hd := (hm j z hz).move d k.shd k.refs (l.idx j) fun b q hbq => by
         rw [Loc.idx_ext] at hbq ⊢
         exact k.own b _ hbq (by simp) fun hp => hji (by simpa using (List.cons_prefix_cons.1 hp).1.symm)
        rwa [killP_noRef _ _ (noRefs_get hnr hz)] at hd
       ·rcases Nat.lt_or_gt_of_ne hji with hlt | hgt
        ·left
         have : (j + 1) * sz <= i * sz := Nat.mul_le_mul_right _ hlt
         rw [Nat.add_mul, Nat.one_mul] at this
         omega
        ·right
         have : (i + 1) * sz <= j * sz := Nat.mul_le_mul_right _ hgt
         rw [Nat.add_mul, Nat.one_mul] at this
         omega
     ·cases hg
    ·cases hg
 | ptr own x =>
  cases own with
  | false => simp [nodeAt] at hg
  | true =>
   obtain ⟨b, cur, e, fr, rfl, hb, ho, hfr, rx⟩ := r.ptr_inv
   simp only [nodeAt] at hg
   split at hg
   ·rename_i hi
    subst hi
    obtain ⟨hfit, _⟩ := rx.getF hg
    obtain ⟨cur', hb', hcur'⟩ := hh b cur e fr ho hb
    have hsize : cur'.size = cur.size := by
     rw [<- Array.length_toList, hcur', spliced_length]
     simp at hfit
     omega
    simp only [nodePut]
    refine .ptr hb' (k.self b ho) (hsize ▸ hfr) ?_
    have := rx.putF hg k.kept hw ry
    rw [hcur']
    unfold spliced
    rw [hcy]
    exact this
   ·cases hg
 | _ => simp [nodeAt] at hg
end Go.VS
/- VS, fourth part: values in slots. -/
set_option linter.unusedVariables false
set_option linter.unusedSimpArgs false
namespace Go.VS
def isAggA : AVal -> Bool
 | .agg _ => true
 | _ => false
def isAggV : Value -> Bool
 | .agg _ => true
 | _ => false
theorem isAggA_killP (d : Loc -> Bool) : ∀ x, isAggA (killP d x) = isAggA x
 | .agg _ => rfl
 | .tup _ => rfl
 | .ptr true _ => rfl
 | .ptr false _ => rfl
 | .fn _ _ => rfl
 | .href l _ _ _ => by simp only [killP]; split <;> rfl
 | .adr l _ _ _ => by simp only [killP]; split <;> rfl
 | .mref l => by simp only [killP]; split <;> rfl
 | .undef => rfl
 | .lit _ => rfl
 | .ifc => rfl
 | .lst _ _ _ => rfl
 | .mp _ _ => rfl
theorem isAggA_copyOut (l : Loc) : ∀ x, isAggA (copyOut l x) = isAggA x
 | .agg _ => rfl
 | .tup _ => rfl
 | .ptr true _ => rfl
 | .ptr false _ => rfl
 | .fn _ _ => rfl
 | .href .. => rfl
 | .adr .. => rfl
 | .mref _ => rfl
 | .undef => rfl
 | .lit _ => rfl
 | .ifc => rfl
 | .lst true _ _ => rfl
 | .lst false _ _ => rfl
 | .mp true _ => rfl
 | .mp false _ => rfl
theorem isAggA_putP (s : Step) (p : List Step) (y x : AVal) : isAggA (putP (s :: p) y x) = isAggA x := by
 cases s with
 | fld k => cases x <;> rfl
 | idx i => cases i <;> cases x <;> rfl
def RepV1 (h : Array Obj) (S : Nat -> Prop) (o : Nat -> Option Loc) (l : Loc) (v : Value) (x : AVal) : Prop :=
 x = .undef \/ (Rep h S o l v.cells.toList x /\ isAggA x = isAggV v)
def RepV (h : Array Obj) (S : Nat -> Prop) (o : Nat -> Option Loc) (l : Loc) (v : Value) (x : AVal) : Prop :=
 RepV1 h S o l v x \/ ∃ (vs : Array Value) (xs : List AVal), x = .tup xs /\ v = .tuple vs /\ vs.size = xs.length /\ ∀ (i : Nat) (u : Value) (x : AVal), vs[i]? = some u -> xs[i]? = some x -> RepV1 h S o (l.fld i) u x
theorem RepV1.of_one {h : Array Obj} {S : Nat -> Prop} {o : Nat -> Option Loc} {l : Loc} {v : Value} {x : AVal} (hv : v.oneCell' = true) (hx : isAggA x = false) (r : Rep h S o l [v] x) : RepV1 h S o l v x := by
 right
 cases v <;> simp_all [Value.oneCell', Value.cells, isAggV]
theorem RepV1.move {h h' : Array Obj} {S S' : Nat -> Prop} {o o' : Nat -> Option Loc} (d : Loc -> Bool) (hS : ∀ b, S b -> S' b /\ h'[b]? = h[b]?)
  (hR : ∀ b m, o b = some m -> d m = false -> o' b = some m /\ sameShape h h' b) {l : Loc} {v : Value} {x : AVal} (r : RepV1 h S o l v x) (l' : Loc)
  (hO : ∀ b q, o b = some (l.ext q) -> o' b = some (l'.ext q) /\ h'[b]? = h[b]?) : RepV1 h' S' o' l' v (killP d x) := by
 rcases r with rfl | ⟨r, ha⟩
 ·exact .inl rfl
 ·exact .inr ⟨r.move d hS hR l' hO, (isAggA_killP d x).trans ha⟩
theorem RepV.move {h h' : Array Obj} {S S' : Nat -> Prop} {o o' : Nat -> Option Loc} (d : Loc -> Bool) (hS : ∀ b, S b -> S' b /\ h'[b]? = h[b]?)
  (hR : ∀ b m, o b = some m -> d m = false -> o' b = some m /\ sameShape h h' b) {l : Loc} {v : Value} {x : AVal} (r : RepV h S o l v x) (l' : Loc)
  (hO : ∀ b q, o b = some (l.ext q) -> o' b = some (l'.ext q) /\ h'[b]? = h[b]?) : RepV h' S' o' l' v (killP d x) := by
 rcases r with r | ⟨vs, xs, rfl, rfl, hs, hv⟩
 ·exact .inl (r.move d hS hR l' hO)
 ·refine .inr ⟨vs, killPs d xs, rfl, rfl, by rw [killPs_map]; simpa using hs, fun i u x hu hx => ?_⟩
  rw [killPs_map, List.getElem?_map] at hx
  obtain ⟨y, hy, rfl⟩ := Option.map_eq_some_iff.1 hx
  exact (hv i u y hu hy).move d hS hR (l'.fld i) fun b q hb => by rw [Loc.fld_ext] at hb ⊢; exact hO b _ hb
theorem RepV1.copy {h : Array Obj} {S : Nat -> Prop} {o : Nat -> Option Loc} {l : Loc} {v : Value} {x : AVal} (r : RepV1 h S o l v x) (l' : Loc) : RepV1 h S o l' v (copyOut l x) := by
 rcases r with rfl | ⟨r, ha⟩
 ·exact .inl rfl
 ·exact .inr ⟨r.copy l', (isAggA_copyOut l x).trans ha⟩
theorem RepV.copy {h : Array Obj} {S : Nat -> Prop} {o : Nat -> Option Loc} {l : Loc} {v : Value} {x : AVal} (r : RepV h S o l v x) (l' : Loc) : RepV h S o l' v (copyOut l x) := by
 rcases r with r | ⟨vs, xs, rfl, rfl, hs, hv⟩
 ·exact .inl (r.copy l')
 ·refine .inr ⟨vs, copyOuts l 0 xs, rfl, rfl, by rw [copyOuts_length]; exact hs, fun i u x hu hx => ?_⟩
  rw [copyOuts_get] at hx
  obtain ⟨y, hy, rfl⟩ := Option.map_eq_some_iff.1 hx
  have := (hv i u y hu hy).copy (l'.fld i)
  simpa using this
theorem getP_undef {p : List Step} {y : AVal} (h : getP p .undef = some y) : y = .undef := by
 cases p with
 | nil => simpa [getP] using h.symm
 | cons s p => cases s <;> (try rename_i i; cases i) <;> simp [getP] at h
theorem RepV1.deep {h h' : Array Obj} {S S' : Nat -> Prop} {o o' : Nat -> Option Loc} {d : Loc -> Bool} {p : List Step} {l : Loc} {v : Value} {x : AVal} (r : RepV1 h S o l v x) {y y' : AVal} (hg : getP p x = some y)
  (ho : ownNode y = true) (hw : isAggA y' = false) (hn : noRef y' = true \/ viaLst p x = false) (hy : ∀ c, Rep h S o (l.ext p) c y -> Rep h' S' o' (l.ext p) c y') (k : Kept h h' S S' o o' d l p) :
  RepV1 h' S' o' l v (putP p y' (killP d x)) := by
 rcases r with rfl | ⟨r, ha⟩
 ·rw [getP_undef hg] at ho; simp [ownNode] at ho
 ·refine .inr ⟨r.deep hg ho hn hy k, ?_⟩
  cases p with
  | nil =>
   simp only [getP, Option.some.injEq] at hg
   subst hg
   rw [putP, hw, <- ha]
   cases x <;> simp_all [isAggA, ownNode]
  | cons s p =>
   rw [isAggA_putP, isAggA_killP, ha]
theorem RepV1.node {h : Array Obj} {S : Nat -> Prop} {o : Nat -> Option Loc} {p : List Step} {l : Loc} {v : Value} {x : AVal} (r : RepV1 h S o l v x) {y : AVal} (hg : getP p x = some y)
  (ho : ownNode y = true) : ∃ c, Rep h S o (l.ext p) c y := by
 rcases r with rfl | ⟨r, ha⟩
 ·rw [getP_undef hg] at ho; simp [ownNode] at ho
 ·exact r.node hg ho
theorem RepV.node {h : Array Obj} {S : Nat -> Prop} {o : Nat -> Option Loc} {p : List Step} {l : Loc} {v : Value} {x : AVal} (r : RepV h S o l v x) {y : AVal} (hg : getP p x = some y)
  (ho : ownNode y = true) : ∃ c, Rep h S o (l.ext p) c y := by
 rcases r with r | ⟨vs, xs, rfl, rfl, hs, hv⟩
 ·exact r.node hg ho
 ·cases p with
  | nil => simp only [getP, Option.some.injEq] at hg; subst hg; simp [ownNode] at ho
  | cons s p =>
   cases s with
   | idx i => cases i <;> simp [getP] at hg
   | fld f =>
    simp only [getP] at hg
    obtain ⟨x, hx, hgx⟩ := Option.bind_eq_some_iff.1 hg
    have hk : f < vs.size := hs ▸ (List.getElem?_eq_some_iff.1 hx).1
    have := (hv f _ x (Array.getElem?_eq_getElem hk) hx).node hgx ho
    rwa [<- Loc.ext_fld, Loc.ext_ext] at this
theorem RepV.deep {h h' : Array Obj} {S S' : Nat -> Prop} {o o' : Nat -> Option Loc} {d : Loc -> Bool} {p : List Step} {l : Loc} {v : Value} {x : AVal} (r : RepV h S o l v x) {y y' : AVal} (hg : getP p x = some y)
  (ho : ownNode y = true) (hw : isAggA y' = false) (hn : noRef y' = true \/ viaLst p x = false) (hy : ∀ c, Rep h S o (l.ext p) c y -> Rep h' S' o' (l.ext p) c y') (k : Kept h h' S S' o o' d l p) :
  RepV h' S' o' l v (putP p y' (killP d x)) := by
 rcases r with r | ⟨vs, xs, rfl, rfl, hs, hv⟩
 ·exact .inl (r.deep hg ho hw hn hy k)
 ·cases p with
  | nil => simp only [getP, Option.some.injEq] at hg; subst hg; simp [ownNode] at ho
  | cons s p =>
   cases s with
   | idx i => cases i <;> simp [getP] at hg
   | fld f =>
    simp only [getP] at hg
    obtain ⟨x, hx, hgx⟩ := Option.bind_eq_some_iff.1 hg
    clear hg
    simp only [killP, putP]
    refine .inr ⟨vs, _, rfl, rfl, by rw [killPs_map]; simpa using hs, fun i u z hu hz => ?_⟩
    rw [killPs_map] at hz
    by_cases hi : i = f
    ·subst hi
     rw [List.getElem?_modify_eq, List.getElem?_map, hx] at hz
     simp at hz
     subst hz
     refine RepV1.deep (hv i u x hu hx) hgx ho hw (by simpa [viaLst, hx] using hn) (fun c hc => ?_) (by have := k.down; rwa [Loc.ext_fld] at this)
     rw [<- Loc.ext_fld, Loc.ext_ext] at hc ⊢
     exact hy c hc
    ·rw [List.getElem?_modify_ne _ _ (Ne.symm hi), List.getElem?_map] at hz
     obtain ⟨z', hz', rfl⟩ := Option.map_eq_some_iff.1 hz
     refine (hv i u z' hu hz').move d k.shd k.refs _ fun b q hb => ?_
     rw [Loc.fld_ext] at hb ⊢
     exact k.own b _ hb fun hp => hi (by simpa using (List.cons_prefix_cons.1 hp).1.symm)
end Go.VS
/- VS, fifth part: the abstract state of a call at work; how a slot is set; how a tree is taken from where it lies. -/
set_option linter.unusedVariables false
set_option linter.unusedSimpArgs false
namespace Go.VS
structure Sys where
 P : Program
 mixed : P.follows .mixedOrders = true
 ng : Nat
 Gl : World -> Prop
 stay : ∀ w w' : World, (∀ b, b < ng -> w'.heap[b]? = w.heap[b]?) -> Gl w -> Gl w'
structure Ctx where
 g : Sys
 nt : Nat
 keep : List Nat
 muts : List Nat
 mvs : List Nat
abbrev Env := Nat -> AVal
abbrev Own := Nat -> Option Loc
structure Fr (w0 : World) (S0 : Nat -> Prop) (o0 : Own) (w : World) (S : Nat -> Prop) (o : Own) : Prop where
 os : w.os = w0.os
 tape : w.tape = w0.tape
 output : w.output = w0.output
 size : w0.heap.size <= w.heap.size
 old : ∀ b, b < w0.heap.size -> o0 b = none -> o b = none /\ w.heap[b]? = w0.heap[b]?
 grow : ∀ b, S0 b -> S b
 only : ∀ b, S b -> S0 b \/ w0.heap.size <= b \/ o0 b ≠ none
 shp : ∀ b, b < w0.heap.size -> sameShape w0.heap w.heap b
structure Wo (g : Sys) (nt : Nat) (w : World) (S : Nat -> Prop) (o : Own) : Prop where
 rt : ∀ b m, o b = some m -> m.r <= nt
 inj : ∀ b b' m, o b = some m -> o b' = some m -> b = b'
 lt : ∀ b m, o b = some m -> b < w.heap.size /\ g.ng <= b
 sh : ∀ b, S b -> o b = none /\ b < w.heap.size
 gl : g.Gl w
 ngs : g.ng <= w.heap.size
def tv (cargs : Array Value) (a : Act) (r : Nat) : Value := if r < a.tmps.size then a.tmps.getD r Go.undef else cargs.getD r Go.undef
def SzOk (c : Ctx) (cargs : Array Value) (a : Act) : Prop := (cargs.size <= c.nt /\ a.tmps.size = c.nt) \/ (cargs.size = c.nt + 1 /\ cargs.getD c.nt Go.undef = Go.undef /\ a.tmps.size + 1 = c.nt /\ a.tmps.size ∈ c.muts /\ ∃ ad n k, cargs.getD a.tmps.size Go.undef = .slice ad n k)
structure St (c : Ctx) (w0 : World) (S0 : Nat -> Prop) (o0 : Own) (cargs : Array Value) (e : Env) (a : Act) (w : World) (S : Nat -> Prop) (o : Own) : Prop where
 wo : Wo c.g c.nt w S o
 fr : Fr w0 S0 o0 w S o
 env : ∀ r, RepV w.heap S o ⟨r, []⟩ (tv cargs a r) (e r)
 lim : e c.nt = .undef
 sz : SzOk c cargs a
 df : a.defers = []
 mu : ∀ i, i ∈ c.muts -> tv cargs a i = cargs.getD i Go.undef
def free (o : Own) (t : Nat) : Prop := ∀ b m, o b = some m -> m.r ≠ t
def killRoots (d n : Nat) (m : Loc) : Bool := m.r == d || m.r == n
def putE (c : Ctx) (d : Nat) (x : AVal) (e : Env) : Env :=
 if c.keep.contains d then fun r => if r = d then killP (killRoots d c.nt) x else killP (killRoots d c.nt) (e r)
 else fun r => if r = d then x else e r
variable {c : Ctx} {w0 : World} {S0 : Nat -> Prop} {o0 : Own} {cargs : Array Value} {e : Env} {a : Act} {w : World} {S : Nat -> Prop} {o : Own}
theorem getD_put_self {a : Act} {d : Nat} {v : Value} (h : d < a.tmps.size) : (a.put (some d) v).tmps.getD d Go.undef = v := by
 simp [Act.put, Array.getD_eq_getD_getElem?, Array.getElem?_setIfInBounds, h]
theorem getD_put_ne {a : Act} {d r : Nat} {v : Value} (h : r ≠ d) : (a.put (some d) v).tmps.getD r Go.undef = a.tmps.getD r Go.undef := by
 simp [Act.put, Array.getD_eq_getD_getElem?, Array.getElem?_setIfInBounds, Ne.symm h]
theorem tv_put_self {a : Act} {d : Nat} {v : Value} (h : d < a.tmps.size) : tv cargs (a.put (some d) v) d = v := by
 unfold tv
 rw [getD_put_self h, if_pos (by simpa [Act.put] using h)]
theorem tv_put_ne {a : Act} {d r : Nat} {v : Value} (h : r ≠ d) : tv cargs (a.put (some d) v) r = tv cargs a r := by
 unfold tv
 rw [getD_put_ne h]
 simp [Act.put]
theorem SzOk.put {a : Act} {d : Nat} {v : Value} (h : SzOk c cargs a) : SzOk c cargs (a.put (some d) v) := by
 unfold SzOk at *
 simpa [Act.put] using h
theorem SzOk.lt {a : Act} {d : Nat} (h : SzOk c cargs a) (hd : d < c.nt) (hm : d ∉ c.muts) : d < a.tmps.size := by
 rcases h with h | ⟨_, _, h, k, _⟩
 ·omega
 ·have : d ≠ a.tmps.size := fun e => hm (e ▸ k)
  omega
theorem SzOk.far {a : Act} (h : SzOk c cargs a) {r : Nat} (hr : ¬ r < a.tmps.size) : tv cargs a r = Go.undef \/ ∃ ad n k, tv cargs a r = .slice ad n k := by
 unfold tv
 rw [if_neg hr]
 rcases h with h2 | ⟨h1, h0, h2, _, h3⟩
 ·exact .inl (by simp [Array.getD_eq_getD_getElem?, show cargs.size <= r by omega])
 ·by_cases he : r = a.tmps.size
  ·subst he
   exact .inr h3
  ·by_cases hn : r = c.nt
   ·subst hn
    exact .inl h0
   ·exact .inl (by simp [Array.getD_eq_getD_getElem?, show cargs.size <= r by omega])
theorem SzOk.plain {a : Act} (h : SzOk c cargs a) (hc : cargs.size <= c.nt) (t : Nat) : tv cargs a t = a.tmps.getD t Go.undef := by
 unfold tv
 split
 ·rfl
 ·rename_i hr
  rcases h with h2 | ⟨h1, _⟩
  ·have h3 : a.tmps.getD t Go.undef = Go.undef := by simp [Array.getD_eq_getD_getElem?, Nat.le_of_not_lt hr]
   simp [Array.getD_eq_getD_getElem?, show cargs.size <= t by omega, Nat.le_of_not_lt hr]
  ·omega
theorem St.putFresh (s : St c w0 S0 o0 cargs e a w S o) {d : Nat} (hd : d < c.nt) (hm : d ∉ c.muts) {v : Value} {x : AVal} (r : RepV w.heap S o ⟨d, []⟩ v x) :
  St c w0 S0 o0 cargs (fun r => if r = d then x else e r) (a.put (some d) v) w S o where
 wo := s.wo
 fr := s.fr
 env := fun q => by
  by_cases h : q = d
  ·subst h
   rw [tv_put_self (s.sz.lt hd hm)]
   simpa using r
  ·rw [tv_put_ne h]
   simpa [h] using s.env q
 lim := by rw [if_neg (by omega)]; exact s.lim
 sz := s.sz.put
 df := s.df
 mu := fun i hi => by
  rw [tv_put_ne (by rintro rfl; exact hm hi)]
  exact s.mu i hi
def relab (o : Own) (d n : Nat) : Own := fun b => match o b with
 | none => none
 | some m => if m.r = d then none else if m.r = n then some ⟨d, m.p⟩ else some m
theorem relab_eq {o : Own} {d n b : Nat} {m : Loc} (h : relab o d n b = some m) : (m.r = d /\ o b = some ⟨n, m.p⟩) \/ (m.r ≠ d /\ m.r ≠ n /\ o b = some m) := by
 unfold relab at h
 split at h
 ·cases h
 ·rename_i m' hm'
  split at h
  ·cases h
  ·rename_i h1
   split at h
   ·rename_i h2
    cases h
    left
    refine ⟨rfl, ?_⟩
    rw [hm', <- h2]
   ·rename_i h2
    cases h
    exact .inr ⟨h1, h2, hm'⟩
theorem St.putKeep (s : St c w0 S0 o0 cargs e a w S o) {d : Nat} (hd : d < c.nt) (hm : d ∉ c.muts) {v : Value} {x : AVal} (r : RepV w.heap S o ⟨c.nt, []⟩ v x) :
  St c w0 S0 o0 cargs (fun r => if r = d then killP (killRoots d c.nt) x else killP (killRoots d c.nt) (e r)) (a.put (some d) v) w S (relab o d c.nt) := by
 have hR : ∀ b m, o b = some m -> killRoots d c.nt m = false -> relab o d c.nt b = some m /\ sameShape w.heap w.heap b := fun b m hb hk => by
  simp only [killRoots, Bool.or_eq_false_iff, beq_eq_false_iff_ne] at hk
  exact ⟨by simp [relab, hb, hk.1, hk.2], .of_eq rfl⟩
 refine ⟨⟨?_, ?_, ?_, ?_, s.wo.gl, s.wo.ngs⟩, ⟨s.fr.os, s.fr.tape, s.fr.output, s.fr.size, ?_, s.fr.grow, s.fr.only, s.fr.shp⟩, ?_, ?_, s.sz.put, s.df, ?_⟩
 ·intro b m h
  rcases relab_eq h with ⟨h, _⟩ | ⟨_, _, h⟩
  ·omega
  ·exact s.wo.rt _ _ h
 ·intro b b' m h1 h2
  rcases relab_eq h1 with ⟨e1, h1⟩ | ⟨n1, k1, h1⟩ <;> rcases relab_eq h2 with ⟨e2, h2⟩ | ⟨n2, k2, h2⟩
  ·exact s.wo.inj _ _ _ h1 h2
  ·exact absurd e1 n2
  ·exact absurd e2 n1
  ·exact s.wo.inj _ _ _ h1 h2
 ·intro b m h
  rcases relab_eq h with ⟨_, h⟩ | ⟨_, _, h⟩ <;> exact s.wo.lt _ _ h
 ·intro b h
  exact ⟨by simp [relab, (s.wo.sh b h).1], (s.wo.sh b h).2⟩
 ·intro b h1 h2
  exact ⟨by simp [relab, (s.fr.old b h1 h2).1], (s.fr.old b h1 h2).2⟩
 ·intro q
  by_cases h : q = d
  ·subst h
   rw [tv_put_self (s.sz.lt hd hm), if_pos rfl]
   refine r.move _ (fun b h => ⟨h, rfl⟩) hR ⟨q, []⟩ fun b p hb => ?_
   simp only [Loc.ext, List.nil_append] at hb ⊢
   have hne : c.nt ≠ q := by omega
   exact ⟨by simp [relab, hb, hne], trivial⟩
  ·rw [tv_put_ne h, if_neg h]
   by_cases hn : q = c.nt
   ·subst hn
    rw [s.lim]
    exact .inl (.inl rfl)
   ·refine (s.env q).move _ (fun b h => ⟨h, rfl⟩) hR ⟨q, []⟩ fun b p hb => ?_
    simp only [Loc.ext, List.nil_append] at hb ⊢
    exact ⟨by simp [relab, hb, h, hn], trivial⟩
 ·rw [if_neg (by omega), s.lim]
  rfl
 ·intro i hi
  rw [tv_put_ne (by rintro rfl; exact hm hi)]
  exact s.mu i hi
theorem St.world (s : St c w0 S0 o0 cargs e a w S o) {w' : World} {S' : Nat -> Prop} {o' : Own} {e' : Env} (K : Loc -> Bool) (X : Nat -> Prop) (wo : Wo c.g c.nt w' S' o') (fr : Fr w0 S0 o0 w' S' o')
  (hS : ∀ b, S b -> S' b /\ w'.heap[b]? = w.heap[b]?) (hR : ∀ b m, o b = some m -> K m = false -> o' b = some m /\ sameShape w.heap w'.heap b)
  (hO : ∀ r, ¬ X r -> ∀ b p, o b = some ⟨r, p⟩ -> o' b = some ⟨r, p⟩ /\ w'.heap[b]? = w.heap[b]?) (hX : ∀ r, X r -> r ≠ c.nt -> RepV w'.heap S' o' ⟨r, []⟩ (tv cargs a r) (e' r))
  (he : ∀ r, ¬ X r -> e' r = killP K (e r)) (hn : ¬ X c.nt) : St c w0 S0 o0 cargs e' a w' S' o' where
 wo := wo
 fr := fr
 env := fun r => by
  by_cases h : X r
  ·exact hX r h (fun e => hn (e ▸ h))
  ·rw [he r h]
   refine (s.env r).move K hS hR ⟨r, []⟩ fun b p hb => ?_
   simp only [Loc.ext, List.nil_append] at hb ⊢
   exact hO r h b p hb
 lim := by rw [he _ hn, s.lim]; rfl
 sz := s.sz
 df := s.df
 mu := s.mu
def fuzzy : List Step -> List Step -> Bool
 | [], _ => true
 | .fld i :: p, .fld j :: q => i == j && fuzzy p q
 | .idx _ :: p, .idx _ :: q => fuzzy p q
 | _, _ => false
theorem fuzzy_of : ∀ {p q : List Step}, p <+: q -> fuzzy p q = true
 | [], _, _ => by simp [fuzzy]
 | s :: p, [], h => by simp at h
 | s :: p, t :: q, h => by
  obtain ⟨rfl, h1⟩ := List.cons_prefix_cons.1 h
  have := fuzzy_of h1
  cases s <;> simp [fuzzy, this]
def below (l m : Loc) : Bool := m.r == l.r && fuzzy l.p m.p
def getE (e : Env) (l : Loc) : Option AVal := getP l.p (e l.r)
def takeE (l : Loc) (e : Env) : Env := fun r => if r = l.r then putP l.p .undef (killP (below l) (e r)) else killP (below l) (e r)
def movO (o : Own) (l t : Loc) : Own := fun b => match o b with
 | none => none
 | some m => if m.r = l.r /\ l.p <+: m.p then some (t.ext (m.p.drop l.p.length)) else some m
def clear (o : Own) (t : Loc) : Prop := ∀ b q, o b ≠ some (t.ext q)
theorem free.clear {o : Own} {t : Nat} (h : free o t) (p : List Step) : clear o ⟨t, p⟩ := fun b q hb => h b _ hb rfl
theorem clear.down {o : Own} {t : Loc} (h : clear o t) (q : List Step) : clear o (t.ext q) := fun b p hb => h b (q ++ p) (by rw [Loc.ext_ext] at hb; exact hb)
def newAt (o o' : Own) (t : Loc) : Prop := ∀ b m, o' b = some m -> o b = some m \/ ∃ q, m = t.ext q
theorem newAt.refl (o : Own) (t : Loc) : newAt o o t := fun _ _ h => .inl h
theorem newAt.trans {o o1 o2 : Own} {t : Loc} (h : newAt o o1 t) (k : newAt o1 o2 t) : newAt o o2 t := fun b m hb => (k b m hb).elim (h b m) .inr
theorem newAt.up {o o' : Own} {t : Loc} {q : List Step} (h : newAt o o' (t.ext q)) : newAt o o' t := fun b m hb => (h b m hb).imp id fun ⟨p, e⟩ => ⟨q ++ p, by rw [e, Loc.ext_ext]⟩
def newBelow (o o' : Own) (t : Loc) : Prop := ∀ b m, o' b = some m -> o b = some m \/ ∃ s q, m = t.ext (s :: q)
theorem newBelow.at {o o' : Own} {t : Loc} (h : newBelow o o' t) : newAt o o' t := fun b m hb => (h b m hb).imp id fun ⟨s, q, e⟩ => ⟨s :: q, e⟩
theorem newAt.below {o o' : Own} {t : Loc} {s : Step} (h : newAt o o' (t.ext [s])) : newBelow o o' t := fun b m hb => (h b m hb).imp id fun ⟨q, e⟩ => ⟨s, q, by rw [e, Loc.ext_ext]; rfl⟩
theorem newBelow.trans {o o1 o2 : Own} {t : Loc} (h : newBelow o o1 t) (k : newBelow o1 o2 t) : newBelow o o2 t := fun b m hb => (k b m hb).elim (h b m) .inr
theorem movO_ext {o : Own} {l t : Loc} {b : Nat} {q : List Step} (h : o b = some (l.ext q)) : movO o l t b = some (t.ext q) := by
 simp [movO, h, Loc.ext]
theorem movO_ne {o : Own} {l t : Loc} {b : Nat} {m : Loc} (h : o b = some m) (hn : ¬ (m.r = l.r /\ l.p <+: m.p)) : movO o l t b = some m := by
 simp [movO, h, hn]
theorem movO_eq {o : Own} {l t : Loc} {b : Nat} {m : Loc} (h : movO o l t b = some m) : (∃ q, m = t.ext q /\ o b = some (l.ext q)) \/ (o b = some m /\ ¬ (m.r = l.r /\ l.p <+: m.p)) := by
 unfold movO at h
 split at h
 ·cases h
 ·rename_i m' hm'
  split at h
  ·rename_i h1
   cases h
   left
   obtain ⟨h2, q, h3⟩ := h1
   refine ⟨q, ?_, ?_⟩
   ·rw [<- h3]; simp
   ·rw [hm']
    cases m'
    simp only at h2 h3
    subst h2 h3
    simp [Loc.ext]
  ·rename_i h1
   cases h
   exact .inr ⟨hm', h1⟩
theorem movO_newAt {o : Own} {l t : Loc} : newAt o (movO o l t) t := fun b m h => by
 rcases movO_eq h with ⟨q, h, _⟩ | ⟨h, _⟩
 ·exact .inr ⟨q, h⟩
 ·exact .inl h
theorem movO_wo {g : Sys} {nt : Nat} (wo : Wo g nt w S o) {l t : Loc} (ht : clear o t) (hr : t.r <= nt) : Wo g nt w S (movO o l t) where
 rt := fun b m h => by
  rcases movO_eq h with ⟨q, rfl, _⟩ | ⟨h, _⟩
  ·exact hr
  ·exact wo.rt _ _ h
 inj := fun b b' m h1 h2 => by
  rcases movO_eq h1 with ⟨q1, e1, h1⟩ | ⟨h1, n1⟩ <;> rcases movO_eq h2 with ⟨q2, e2, h2⟩ | ⟨h2, n2⟩
  ·rw [e1] at e2
   rw [<- Loc.ext_inj e2] at h2
   exact wo.inj _ _ _ h1 h2
  ·exact absurd (e1 ▸ h2) (ht _ _)
  ·exact absurd (e2 ▸ h1) (ht _ _)
  ·exact wo.inj _ _ _ h1 h2
 lt := fun b m h => by
  rcases movO_eq h with ⟨_, _, h⟩ | ⟨h, _⟩ <;> exact wo.lt _ _ h
 sh := fun b h => ⟨by simp [movO, (wo.sh b h).1], (wo.sh b h).2⟩
 gl := wo.gl
 ngs := wo.ngs
theorem movO_fr (fr : Fr w0 S0 o0 w S o) {l t : Loc} : Fr w0 S0 o0 w S (movO o l t) :=
 ⟨fr.os, fr.tape, fr.output, fr.size, fun b h1 h2 => ⟨by simp [movO, (fr.old b h1 h2).1], (fr.old b h1 h2).2⟩, fr.grow, fr.only, fr.shp⟩
theorem St.take (s : St c w0 S0 o0 cargs e a w S o) {l : Loc} {y : AVal} (hg : getE e l = some y) (ho : ownNode y = true) {t : Loc} (ht : clear o t) (htr : t.r <= c.nt) :
  St c w0 S0 o0 cargs (takeE l e) a w S (movO o l t) /\ ∀ v y', Rep w.heap S o l [v] y' -> Rep w.heap S (movO o l t) t [v] (killP (below l) y') := by
 have hR : ∀ b m, o b = some m -> below l m = false -> movO o l t b = some m /\ sameShape w.heap w.heap b := fun b m hb hk =>
  ⟨movO_ne hb fun ⟨h1, h2⟩ => by simp [below, h1, fuzzy_of h2] at hk, .of_eq rfl⟩
 have hl : l.r ≠ c.nt := fun h => by
  unfold getE at hg
  rw [h, s.lim] at hg
  rw [getP_undef hg] at ho
  cases ho
 refine ⟨s.world (below l) (fun r => r = l.r) (movO_wo s.wo ht htr) (movO_fr s.fr) (fun b h => ⟨h, rfl⟩) hR ?_ ?_ ?_ (fun h => hl h.symm), fun v y' r => ?_⟩
 ·intro r hr b p hb
  exact ⟨movO_ne hb fun ⟨h1, _⟩ => hr h1, rfl⟩
 ·rintro r rfl _
  have h0 := s.env l.r
  unfold getE at hg
  simp only [takeE, if_pos]
  refine h0.deep hg ho rfl (.inl rfl) (fun c hc => ?_) ⟨fun b h => ⟨h, rfl⟩, hR, fun b q hb hq => ?_⟩
  ·have := hc.len
   have h1 : y.w = 1 := by cases y <;> simp_all [ownNode, AVal.w]
   rw [h1] at this
   match c, this with
   | [v], _ => exact .undef (hc.ones v (by simp))
  ·simp only [Loc.ext, List.nil_append] at hb ⊢
   exact ⟨movO_ne hb fun ⟨_, h2⟩ => hq h2, trivial⟩
 ·intro r hr
  simp [takeE, hr]
 ·exact r.move _ (fun b h => ⟨h, rfl⟩) hR t fun b q hb => ⟨movO_ext hb, rfl⟩
theorem Rep.href_inv {h : Array Obj} {l m : Loc} {cs : List Value} {sz lo n : Nat} (r : Rep h S o l cs (.href m sz lo n)) :
  (cs = [.slice none 0 0] /\ lo = 0 /\ n = 0) \/ ∃ (b cap : Nat) (cur : Array Value) (e : TypeId) (fr : Nat × Nat), cs = [.slice (some ⟨b, lo * sz, none⟩) n cap] /\ h[b]? = some (.cells cur e fr) /\ o b = some m /\ frOk fr cur.size ∧
   cur.size = (lo + cap) * sz /\ n <= cap /\ lo + cap <= maxLen := by
 cases r with
 | shd a => cases a
 | hrefN => exact .inl ⟨rfl, rfl, rfl⟩
 | href a b c d e f => exact .inr ⟨_, _, _, _, _, rfl, a, b, c, d, e, f⟩
theorem Rep.adr_inv {h : Array Obj} {l m : Loc} {cs : List Value} {i off : Nat} {fs : List Nat} (r : Rep h S o l cs (.adr m i fs off)) :
  ∃ (b : Nat) (cur : Array Value) (e : TypeId) (fr : Nat × Nat), cs = [.pointer (some ⟨b, off, none⟩)] /\ h[b]? = some (.cells cur e fr) /\ o b = some m := by
 cases r with
 | shd a => cases a
 | adr a b => exact ⟨_, _, _, _, rfl, a, b⟩
theorem Rep.mref_inv {h : Array Obj} {l m : Loc} {cs : List Value} (r : Rep h S o l cs (.mref m)) :
  ∃ (b : Nat) (es : Array MapEntry) (k : Nat), cs = [.map (some b)] /\ h[b]? = some (.map es k) /\ o b = some m := by
 cases r with
 | shd a => cases a
 | mref a b => exact ⟨_, _, _, rfl, a, b⟩
theorem Rep.mp_inv {h : Array Obj} {l : Loc} {cs : List Value} {es : List (Value × Value)} (r : Rep h S o l cs (.mp true es)) :
  ∃ (b : Nat) (ms : Array MapEntry) (k : Nat), cs = [.map (some b)] /\ h[b]? = some (.map ms k) /\ o b = some l /\ es = ms.toList.map fun m => (m.key, m.val) := by
 cases r with
 | shd a => cases a
 | mp a b => exact ⟨_, _, _, rfl, a, b, rfl⟩
theorem Rep.lit_inv {h : Array Obj} {l : Loc} {cs : List Value} {v : Value} (r : Rep h S o l cs (.lit v)) : cs = [v] /\ litOk v := by
 cases r with | shd a => cases a with | lit a => exact ⟨rfl, a⟩
theorem Rep.ifc_inv {h : Array Obj} {l : Loc} {cs : List Value} (r : Rep h S o l cs .ifc) : ∃ t v, cs = [.iface t v] := by
 cases r with | shd a => cases a with | ifc => exact ⟨_, _, rfl⟩
theorem Rep.shd_lst_inv {h : Array Obj} {l : Loc} {cs : List Value} {sz : Nat} {xs : List AVal} (r : Rep h S o l cs (.lst false sz xs)) : RepS h S cs (.lst false sz xs) := by
 cases r with | shd a => exact a
theorem Rep.shd_ptr_inv {h : Array Obj} {l : Loc} {cs : List Value} {x : AVal} (r : Rep h S o l cs (.ptr false x)) : RepS h S cs (.ptr false x) := by
 cases r with | shd a => exact a
theorem Rep.shd_mp_inv {h : Array Obj} {l : Loc} {cs : List Value} {es : List (Value × Value)} (r : Rep h S o l cs (.mp false es)) : RepS h S cs (.mp false es) := by
 cases r with | shd a => exact a
theorem Rep.fn_inv {h : Array Obj} {l : Loc} {cs : List Value} {f : Nat} {caps : List AVal} (r : Rep h S o l cs (.fn f caps)) :
  ∃ cvs : Array Value, cs = [.func (.func f) #[] cvs] /\ cvs.size = caps.length /\ ∀ (i : Nat) (c : Value) (x : AVal), cvs[i]? = some c -> caps[i]? = some x -> Rep h S o (l.fld i) [c] x := by
 cases r with
 | shd a => cases a with | fn a b => exact ⟨_, rfl, a, fun i c x hc hx => .shd (b i c x hc hx)⟩
 | fn a b => exact ⟨_, rfl, a, b⟩
theorem Rep.of_href {h : Array Obj} {l l' : Loc} {v : Value} {cs : List Value} {sz lo n : Nat} {xs : List AVal} (inj : ∀ b b' m, o b = some m -> o b' = some m -> b = b')
  (r : Rep h S o l cs (.lst true sz xs)) (q : Rep h S o l' [v] (.href l sz lo n)) (hlo : lo = 0) (hn : n <= xs.length) : Rep h S o l [v] (.lst true sz (xs.take n)) := by
 subst hlo
 rcases q.href_inv with ⟨hv, _, rfl⟩ | ⟨b1, cap, cur, t, fr, hv, a, b, c, d, e, f⟩
 ·rw [hv, List.take_zero]
  exact .nil
 ·rw [hv]
  simp only [Nat.zero_mul, Nat.zero_add] at d f ⊢
  have hl : (xs.take n).length = n := by simp [hn]
  rcases r.lst_inv with ⟨rfl, rfl⟩ | ⟨b', cap', cur', e', fr', rfl, hb, ho, hfr, hsz, hlen, hcap, hnr, hm⟩
  ·simp at hn
   subst hn
   have := Rep.lst (S := S) (o := o) (l := l) (xs := []) (sz := sz) a b c d (by simp) f rfl (by simp)
   simpa using this
  ·obtain rfl := inj _ _ _ b ho
   rw [a] at hb
   cases hb
   have := Rep.lst (S := S) (o := o) (l := l) (xs := xs.take n) (sz := sz) a b c d (by omega) f
    (by rw [noRefs_all, List.all_eq_true]; intro x hx; rw [noRefs_all, List.all_eq_true] at hnr; exact hnr x (List.mem_of_mem_take hx))
    (fun i x hx => hm i x (by rw [List.getElem?_take] at hx; split at hx <;> simp_all))
   rwa [hl] at this
end Go.VS
