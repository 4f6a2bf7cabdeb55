/- VS: rules for values, and the set of all rules. -/
import Derived.Test.YtjpjfokhdogopaaVm
import Derived.Attr
import Derived.Test.YtjpjfokhdogopaaProg
import Derived.KernelRfl
set_option linter.unusedVariables false
set_option linter.unusedSimpArgs false
namespace Go.VS

section
variable {v : Value} {xs : List AVal} {x : AVal} {own : Bool} {sz : Nat} {l : Loc} {lo n i off : Nat} {fs : List Nat} {es : List (Value × Value)} {f : Nat} {d : Loc → Bool} {mvr : Nat → Bool} {bad : Loc → Bool} {e : Env}

theorem kill_lit : killP d (.lit v) = (.lit v) := by simp only [killP]
theorem kill_ifc : killP d .ifc = .ifc := by simp only [killP]
theorem kill_undef : killP d .undef = .undef := by simp only [killP]
theorem kill_lst : killP d (.lst own sz xs) = (.lst own sz xs) := by simp only [killP]
theorem kill_ptrS : killP d (.ptr false x) = (.ptr false x) := by simp only [killP]
theorem kill_mpO : killP d (.mp true es) = (.mp true es) := by simp only [killP]
theorem kill_mpS : killP d (.mp false es) = (.mp false es) := by simp only [killP]
theorem kill_agg : killP d (.agg xs) = .agg (killPs d xs) := by simp only [killP]
theorem kill_tup : killP d (.tup xs) = .tup (killPs d xs) := by simp only [killP]
theorem kill_fn : killP d (.fn f xs) = .fn f (killPs d xs) := by simp only [killP]
theorem kill_ptrO : killP d (.ptr true x) = .ptr true (killP d x) := by simp only [killP]
theorem kill_href : killP d (.href l sz lo n) = if d l = true then .undef else (.href l sz lo n) := by simp only [killP]
theorem kill_adr : killP d (.adr l i fs off) = if d l = true then .undef else (.adr l i fs off) := by simp only [killP]
theorem kill_mref : killP d (.mref l) = if d l = true then .undef else (.mref l) := by simp only [killP]
theorem kills_nil : killPs d [] = [] := by simp only [killPs]
theorem kills_cons : killPs d (x :: xs) = killP d x :: killPs d xs := by simp only [killPs]
theorem copy_lit : copyOut l (.lit v) = (.lit v) := by simp only [copyOut]
theorem copy_ifc : copyOut l .ifc = .ifc := by simp only [copyOut]
theorem copy_undef : copyOut l .undef = .undef := by simp only [copyOut]
theorem copy_lstS : copyOut l (.lst false sz xs) = (.lst false sz xs) := by simp only [copyOut]
theorem copy_ptrS : copyOut l (.ptr false x) = (.ptr false x) := by simp only [copyOut]
theorem copy_mpS : copyOut l (.mp false es) = (.mp false es) := by simp only [copyOut]
theorem copy_href {m : Loc} : copyOut l (.href m sz lo n) = (.href m sz lo n) := by simp only [copyOut]
theorem copy_adr {m : Loc} : copyOut l (.adr m i fs off) = (.adr m i fs off) := by simp only [copyOut]
theorem copy_mref {m : Loc} : copyOut l (.mref m) = (.mref m) := by simp only [copyOut]
theorem copy_agg : copyOut l (.agg xs) = .agg (copyOuts l 0 xs) := by simp only [copyOut]
theorem copy_tup : copyOut l (.tup xs) = .tup (copyOuts l 0 xs) := by simp only [copyOut]
theorem copy_fn : copyOut l (.fn f xs) = .fn f (copyOuts l 0 xs) := by simp only [copyOut]
theorem copy_lstO : copyOut l (.lst true sz xs) = .href l sz 0 xs.length := by simp only [copyOut]
theorem copy_ptrO : copyOut l (.ptr true x) = .adr l 0 [] 0 := by simp only [copyOut]
theorem copy_mpO : copyOut l (.mp true es) = .mref l := by simp only [copyOut]
theorem copys_nil : copyOuts l i [] = [] := by simp only [copyOuts]
theorem copys_cons : copyOuts l i (x :: xs) = copyOut (l.fld i) x :: copyOuts l (i + 1) xs := by simp only [copyOuts]
theorem noRef_lit : noRef (.lit v) = true := by simp only [noRef]
theorem noRef_ifc : noRef .ifc = true := by simp only [noRef]
theorem noRef_undef : noRef .undef = true := by simp only [noRef]
theorem noRef_agg : noRef (.agg xs) = noRefs xs := by simp only [noRef]
theorem noRef_tup : noRef (.tup xs) = noRefs xs := by simp only [noRef]
theorem noRef_lst : noRef (.lst own sz xs) = noRefs xs := by simp only [noRef]
theorem noRef_ptrO : noRef (.ptr true x) = noRef x := by simp only [noRef]
theorem noRef_ptrS : noRef (.ptr false x) = noRef x := by simp only [noRef]
theorem noRef_fn : noRef (.fn f xs) = noRefs xs := by simp only [noRef]
theorem noRef_mpO : noRef (.mp true es) = true := by simp only [noRef]
theorem noRef_mpS : noRef (.mp false es) = true := by simp only [noRef]
theorem noRef_href : noRef (.href l sz lo n) = false := by simp only [noRef]
theorem noRef_adr : noRef (.adr l i fs off) = false := by simp only [noRef]
theorem noRef_mref : noRef (.mref l) = false := by simp only [noRef]
theorem noRefs_nil : noRefs [] = true := by simp only [noRefs]
theorem noRefs_cons : noRefs (x :: xs) = (noRef x && noRefs xs) := by simp only [noRefs]
theorem closed_lit : closedA (.lit v) = true := by simp [closedA]
theorem closed_ifc : closedA .ifc = true := by simp [closedA]
theorem closed_undef : closedA .undef = true := by simp [closedA]
theorem closed_agg : closedA (.agg xs) = closedAs xs := by simp [closedA]
theorem closed_tup : closedA (.tup xs) = closedAs xs := by simp [closedA]
theorem closed_lst : closedA (.lst own sz xs) = (own && closedAs xs) := by simp [closedA]
theorem closed_ptrO : closedA (.ptr true x) = closedA x := by simp [closedA]
theorem closed_ptrS : closedA (.ptr false x) = false := by simp [closedA]
theorem closed_fn : closedA (.fn f xs) = closedAs xs := by simp [closedA]
theorem closed_mpO : closedA (.mp true es) = true := by simp [closedA]
theorem closed_mpS : closedA (.mp false es) = false := by simp [closedA]
theorem closeds_nil : closedAs [] = true := by simp only [closedAs]
theorem closeds_cons : closedAs (x :: xs) = (closedA x && closedAs xs) := by simp only [closedAs]
theorem flat_lit : flatA (.lit v) = true := by simp only [flatA]
theorem flat_ifc : flatA .ifc = true := by simp only [flatA]
theorem flat_undef : flatA .undef = true := by simp only [flatA]
theorem flat_agg : flatA (.agg xs) = flatAs xs := by simp only [flatA]
theorem flat_tup : flatA (.tup xs) = false := by simp only [flatA]
theorem flat_lstO : flatA (.lst true sz xs) = false := by simp only [flatA]
theorem flat_lstS : flatA (.lst false sz xs) = true := by simp only [flatA]
theorem flat_ptrO : flatA (.ptr true x) = false := by simp only [flatA]
theorem flat_ptrS : flatA (.ptr false x) = true := by simp only [flatA]
theorem flat_fn : flatA (.fn f xs) = flatAs xs := by simp only [flatA]
theorem flat_mpO : flatA (.mp true es) = false := by simp only [flatA]
theorem flat_mpS : flatA (.mp false es) = true := by simp only [flatA]
theorem flat_href : flatA (.href l sz lo n) = false := by simp only [flatA]
theorem flat_adr : flatA (.adr l i fs off) = false := by simp only [flatA]
theorem flat_mref : flatA (.mref l) = false := by simp only [flatA]
theorem flats_nil : flatAs [] = true := by simp only [flatAs]
theorem flats_cons : flatAs (x :: xs) = (flatA x && flatAs xs) := by simp only [flatAs]
theorem rok_lit : refsOk mvr (.lit v) = (true) := by simp only [refsOk]
theorem rok_ifc : refsOk mvr .ifc = (true) := by simp only [refsOk]
theorem rok_undef : refsOk mvr .undef = (true) := by simp only [refsOk]
theorem rok_agg : refsOk mvr (.agg xs) = (refsOks mvr xs) := by simp only [refsOk]
theorem rok_tup : refsOk mvr (.tup xs) = (refsOks mvr xs) := by simp only [refsOk]
theorem rok_lst : refsOk mvr (.lst own sz xs) = (true) := by simp only [refsOk]
theorem rok_ptrO : refsOk mvr (.ptr true x) = (refsOk mvr x) := by simp only [refsOk]
theorem rok_ptrS : refsOk mvr (.ptr false x) = (true) := by simp only [refsOk]
theorem rok_fn : refsOk mvr (.fn f xs) = (refsOks mvr xs) := by simp only [refsOk]
theorem rok_mpO : refsOk mvr (.mp true es) = (true) := by simp only [refsOk]
theorem rok_mpS : refsOk mvr (.mp false es) = (true) := by simp only [refsOk]
theorem rok_href : refsOk mvr (.href l sz lo n) = (!mvr l.r) := by simp only [refsOk]
theorem rok_adr : refsOk mvr (.adr l i fs off) = (!mvr l.r) := by simp only [refsOk]
theorem rok_mref : refsOk mvr (.mref l) = (!mvr l.r) := by simp only [refsOk]
theorem roks_nil : refsOks mvr [] = true := by simp only [refsOks]
theorem roks_cons : refsOks mvr (x :: xs) = (refsOk mvr x && refsOks mvr xs) := by simp only [refsOks]
theorem blank_lit : blank (.lit v) = (.lit v) := by simp only [blank]
theorem blank_ifc : blank .ifc = .ifc := by simp only [blank]
theorem blank_undef : blank .undef = .undef := by simp only [blank]
theorem blank_lstS : blank (.lst false sz xs) = (.lst false sz xs) := by simp only [blank]
theorem blank_ptrS : blank (.ptr false x) = (.ptr false x) := by simp only [blank]
theorem blank_mpS : blank (.mp false es) = (.mp false es) := by simp only [blank]
theorem blank_href : blank (.href l sz lo n) = (.href l sz lo n) := by simp only [blank]
theorem blank_adr : blank (.adr l i fs off) = (.adr l i fs off) := by simp only [blank]
theorem blank_mref : blank (.mref l) = (.mref l) := by simp only [blank]
theorem blank_lstO : blank (.lst true sz xs) = .undef := by simp only [blank]
theorem blank_ptrO : blank (.ptr true x) = .undef := by simp only [blank]
theorem blank_mpO : blank (.mp true es) = .undef := by simp only [blank]
theorem blank_agg : blank (.agg xs) = .agg (blanks xs) := by simp only [blank]
theorem blank_fn : blank (.fn f xs) = .fn f (blanks xs) := by simp only [blank]
theorem blanks_nil : blanks [] = [] := by simp only [blanks]
theorem blanks_cons : blanks (x :: xs) = blank x :: blanks xs := by simp only [blanks]
theorem shd_lit : toShd (.lit v) = (.lit v) := by simp only [toShd]
theorem shd_ifc : toShd .ifc = .ifc := by simp only [toShd]
theorem shd_undef : toShd .undef = .undef := by simp only [toShd]
theorem shd_href : toShd (.href l sz lo n) = (.href l sz lo n) := by simp only [toShd]
theorem shd_adr : toShd (.adr l i fs off) = (.adr l i fs off) := by simp only [toShd]
theorem shd_mref : toShd (.mref l) = (.mref l) := by simp only [toShd]
theorem shd_agg : toShd (.agg xs) = .agg (toShds xs) := by simp only [toShd]
theorem shd_tup : toShd (.tup xs) = .tup (toShds xs) := by simp only [toShd]
theorem shd_fn : toShd (.fn f xs) = .fn f (toShds xs) := by simp only [toShd]
theorem shd_lst : toShd (.lst own sz xs) = .lst false sz (toShds xs) := by simp only [toShd]
theorem shd_ptrO : toShd (.ptr own x) = .ptr false (toShd x) := by simp only [toShd]
theorem shd_mp : toShd (.mp own es) = .mp false es := by simp only [toShd]
theorem shds_nil : toShds [] = [] := by simp only [toShds]
theorem shds_cons : toShds (x :: xs) = toShd x :: toShds xs := by simp only [toShds]
theorem stOk_lit : stOk (.lit v) = true := nr rfl
theorem isUndef_lit : isUndef (.lit v) = false := nr rfl
theorem isAgg_lit : isAggA (.lit v) = false := nr rfl
theorem capOk_lit : capOk (.lit v) = true := nr rfl
theorem isNilList_lit : setParts.isNilList (.lit v) = false := nr rfl
theorem stOk_ifc : stOk .ifc = true := nr rfl
theorem isUndef_ifc : isUndef .ifc = false := nr rfl
theorem isAgg_ifc : isAggA .ifc = false := nr rfl
theorem capOk_ifc : capOk .ifc = true := nr rfl
theorem isNilV_ifc : isNilV .ifc = false := nr rfl
theorem isNilList_ifc : setParts.isNilList .ifc = false := nr rfl
theorem stOk_undef : stOk .undef = false := nr rfl
theorem isUndef_undef : isUndef .undef = true := nr rfl
theorem isAgg_undef : isAggA .undef = false := nr rfl
theorem capOk_undef : capOk .undef = false := nr rfl
theorem isNilV_undef : isNilV .undef = false := nr rfl
theorem isNilList_undef : setParts.isNilList .undef = false := nr rfl
theorem stOk_agg : stOk (.agg xs) = true := nr rfl
theorem isUndef_agg : isUndef (.agg xs) = false := nr rfl
theorem isAgg_agg : isAggA (.agg xs) = true := nr rfl
theorem capOk_agg : capOk (.agg xs) = false := nr rfl
theorem isNilV_agg : isNilV (.agg xs) = false := nr rfl
theorem isNilList_agg : setParts.isNilList (.agg xs) = false := nr rfl
theorem stOk_tup : stOk (.tup xs) = false := nr rfl
theorem isUndef_tup : isUndef (.tup xs) = false := nr rfl
theorem isAgg_tup : isAggA (.tup xs) = false := nr rfl
theorem capOk_tup : capOk (.tup xs) = false := nr rfl
theorem isNilV_tup : isNilV (.tup xs) = false := nr rfl
theorem isNilList_tup : setParts.isNilList (.tup xs) = false := nr rfl
theorem stOk_lst : stOk (.lst own sz xs) = true := nr rfl
theorem isUndef_lst : isUndef (.lst own sz xs) = false := nr rfl
theorem isAgg_lst : isAggA (.lst own sz xs) = false := nr rfl
theorem capOk_lst : capOk (.lst own sz xs) = true := nr rfl
theorem isNilV_lst : isNilV (.lst own sz xs) = false := nr rfl
theorem stOk_lstO : stOk (.lst true sz xs) = true := nr rfl
theorem isUndef_lstO : isUndef (.lst true sz xs) = false := nr rfl
theorem isAgg_lstO : isAggA (.lst true sz xs) = false := nr rfl
theorem capOk_lstO : capOk (.lst true sz xs) = true := nr rfl
theorem isNilV_lstO : isNilV (.lst true sz xs) = false := nr rfl
theorem stOk_lstS : stOk (.lst false sz xs) = true := nr rfl
theorem isUndef_lstS : isUndef (.lst false sz xs) = false := nr rfl
theorem isAgg_lstS : isAggA (.lst false sz xs) = false := nr rfl
theorem capOk_lstS : capOk (.lst false sz xs) = true := nr rfl
theorem isNilV_lstS : isNilV (.lst false sz xs) = false := nr rfl
theorem isNilList_lstS : setParts.isNilList (.lst false sz xs) = false := nr rfl
theorem stOk_ptrO : stOk (.ptr true x) = true := nr rfl
theorem isUndef_ptrO : isUndef (.ptr true x) = false := nr rfl
theorem isAgg_ptrO : isAggA (.ptr true x) = false := nr rfl
theorem capOk_ptrO : capOk (.ptr true x) = true := nr rfl
theorem isNilV_ptrO : isNilV (.ptr true x) = false := nr rfl
theorem isNilList_ptrO : setParts.isNilList (.ptr true x) = false := nr rfl
theorem stOk_ptrS : stOk (.ptr false x) = true := nr rfl
theorem isUndef_ptrS : isUndef (.ptr false x) = false := nr rfl
theorem isAgg_ptrS : isAggA (.ptr false x) = false := nr rfl
theorem capOk_ptrS : capOk (.ptr false x) = true := nr rfl
theorem isNilV_ptrS : isNilV (.ptr false x) = false := nr rfl
theorem isNilList_ptrS : setParts.isNilList (.ptr false x) = false := nr rfl
theorem stOk_mpO : stOk (.mp true es) = true := nr rfl
theorem isUndef_mpO : isUndef (.mp true es) = false := nr rfl
theorem isAgg_mpO : isAggA (.mp true es) = false := nr rfl
theorem capOk_mpO : capOk (.mp true es) = true := nr rfl
theorem isNilV_mpO : isNilV (.mp true es) = false := nr rfl
theorem isNilList_mpO : setParts.isNilList (.mp true es) = false := nr rfl
theorem stOk_mpS : stOk (.mp false es) = true := nr rfl
theorem isUndef_mpS : isUndef (.mp false es) = false := nr rfl
theorem isAgg_mpS : isAggA (.mp false es) = false := nr rfl
theorem capOk_mpS : capOk (.mp false es) = true := nr rfl
theorem isNilV_mpS : isNilV (.mp false es) = false := nr rfl
theorem isNilList_mpS : setParts.isNilList (.mp false es) = false := nr rfl
theorem stOk_fn : stOk (.fn f xs) = true := nr rfl
theorem isUndef_fn : isUndef (.fn f xs) = false := nr rfl
theorem isAgg_fn : isAggA (.fn f xs) = false := nr rfl
theorem capOk_fn : capOk (.fn f xs) = true := nr rfl
theorem isNilV_fn : isNilV (.fn f xs) = false := nr rfl
theorem isNilList_fn : setParts.isNilList (.fn f xs) = false := nr rfl
theorem stOk_href : stOk (.href l sz lo n) = true := nr rfl
theorem isUndef_href : isUndef (.href l sz lo n) = false := nr rfl
theorem isAgg_href : isAggA (.href l sz lo n) = false := nr rfl
theorem capOk_href : capOk (.href l sz lo n) = true := nr rfl
theorem isNilV_href : isNilV (.href l sz lo n) = false := nr rfl
theorem isNilList_href : setParts.isNilList (.href l sz lo n) = false := nr rfl
theorem stOk_adr : stOk (.adr l i fs off) = true := nr rfl
theorem isUndef_adr : isUndef (.adr l i fs off) = false := nr rfl
theorem isAgg_adr : isAggA (.adr l i fs off) = false := nr rfl
theorem capOk_adr : capOk (.adr l i fs off) = true := nr rfl
theorem isNilV_adr : isNilV (.adr l i fs off) = false := nr rfl
theorem isNilList_adr : setParts.isNilList (.adr l i fs off) = false := nr rfl
theorem stOk_mref : stOk (.mref l) = true := nr rfl
theorem isUndef_mref : isUndef (.mref l) = false := nr rfl
theorem isAgg_mref : isAggA (.mref l) = false := nr rfl
theorem capOk_mref : capOk (.mref l) = true := nr rfl
theorem isNilV_mref : isNilV (.mref l) = false := nr rfl
theorem isNilList_mref : setParts.isNilList (.mref l) = false := nr rfl
theorem isNilList_nil : setParts.isNilList (.lst true sz []) = true := nr rfl
variable {P : Program} {t : TypeId}
theorem fix_ifc : fixNil P t .ifc = .ifc := nr rfl
theorem fix_undef : fixNil P t .undef = .undef := nr rfl
theorem fix_agg : fixNil P t (.agg xs) = (.agg xs) := nr rfl
theorem fix_tup : fixNil P t (.tup xs) = (.tup xs) := nr rfl
theorem fix_lst : fixNil P t (.lst own sz xs) = (.lst own sz xs) := nr rfl
theorem fix_lstO : fixNil P t (.lst true sz xs) = (.lst true sz xs) := nr rfl
theorem fix_lstS : fixNil P t (.lst false sz xs) = (.lst false sz xs) := nr rfl
theorem fix_ptrO : fixNil P t (.ptr true x) = (.ptr true x) := nr rfl
theorem fix_ptrS : fixNil P t (.ptr false x) = (.ptr false x) := nr rfl
theorem fix_mpO : fixNil P t (.mp true es) = (.mp true es) := nr rfl
theorem fix_mpS : fixNil P t (.mp false es) = (.mp false es) := nr rfl
theorem fix_fn : fixNil P t (.fn f xs) = (.fn f xs) := nr rfl
theorem fix_href : fixNil P t (.href l sz lo n) = (.href l sz lo n) := nr rfl
theorem fix_adr : fixNil P t (.adr l i fs off) = (.adr l i fs off) := nr rfl
theorem fix_mref : fixNil P t (.mref l) = (.mref l) := nr rfl
theorem fix_intL {k : IntKind} {z : Int} : fixNil P t (.lit (.int k z)) = .lit (.int k z) := nr rfl
theorem isNilV_intL {k : IntKind} {z : Int} : isNilV (.lit (.int k z)) = false := nr rfl
theorem fix_boolL {b : Bool} : fixNil P t (.lit (.bool b)) = .lit (.bool b) := nr rfl
theorem isNilV_boolL {b : Bool} : isNilV (.lit (.bool b)) = false := nr rfl
theorem fix_strL {s : ByteArray} : fixNil P t (.lit (.string s)) = .lit (.string s) := nr rfl
theorem isNilV_strL {s : ByteArray} : isNilV (.lit (.string s)) = false := nr rfl
theorem fix_nilIL  : fixNil P t (.lit .nilIface) = .lit .nilIface := nr rfl
theorem isNilV_nilIL  : isNilV (.lit .nilIface) = false := nr rfl
theorem fix_nilFL  : fixNil P t (.lit .nilFunc) = .lit .nilFunc := nr rfl
theorem isNilV_nilFL  : isNilV (.lit .nilFunc) = false := nr rfl
theorem fix_ptrNL  : fixNil P t (.lit (.pointer none)) = .lit (.pointer none) := nr rfl
theorem isNilV_ptrNL  : isNilV (.lit (.pointer none)) = false := nr rfl
theorem fix_mapNL  : fixNil P t (.lit (.map none)) = .lit (.map none) := nr rfl
theorem isNilV_mapNL  : isNilV (.lit (.map none)) = false := nr rfl
theorem isNilV_nil : isNilV (.lit (.slice none 0 0)) = true := nr rfl
def fixT (P : Program) : Option TypeId → AVal
  | some e => .lst true (P.cellsOf e) []
  | none => .lit (.slice none 0 0)
theorem fix_nil : fixNil P t (.lit (.slice none 0 0)) = fixT P (elemT P t) := by
  simp only [fixNil]
  cases elemT P t <;> rfl
theorem fixT_some {el : TypeId} : fixT P (some el) = .lst true (P.cellsOf el) [] := nr rfl
theorem opV_tmp : opV e (.tmp t) = copyOut ⟨t, []⟩ (e t) := nr rfl
theorem opV_const : opV e (.const v) = .lit v := nr rfl
theorem opV_func {g : FuncId} : opV e (.func g) = .fn g [] := nr rfl
theorem snap_lit : snap bad e (.lit v) = some (.lit v) := by simp only [snap]
theorem snap_ifc : snap bad e .ifc = some .ifc := by simp only [snap]
theorem snap_undef : snap bad e .undef = some .undef := by simp only [snap]
theorem snap_lstS : snap bad e (.lst false sz xs) = some (.lst false sz xs) := by simp only [snap]
theorem snap_ptrS : snap bad e (.ptr false x) = some (.ptr false x) := by simp only [snap]
theorem snap_mpS : snap bad e (.mp false es) = some (.mp false es) := by simp only [snap]
def aggO : Option (List AVal) → Option AVal
  | some ys => some (.agg ys)
  | none => none
theorem aggO_some : aggO (some xs) = some (.agg xs) := nr rfl
theorem snap_agg : snap bad e (.agg xs) = aggO (snaps bad e xs) := by
  simp only [snap]
  cases snaps bad e xs <;> rfl
def fnO (f : Nat) : Option (List AVal) → Option AVal
  | some ys => some (.fn f ys)
  | none => none
theorem fnO_some : fnO f (some xs) = some (.fn f xs) := nr rfl
theorem snap_fn : snap bad e (.fn f xs) = fnO f (snaps bad e xs) := by
  simp only [snap]
  cases snaps bad e xs <;> rfl
def snapH (b : Bool) (sz lo n : Nat) : Option AVal → Option AVal
  | some (.lst true sz' xs) => if b = true then none else if sz' = sz ∧ lo + n ≤ xs.length then some (.lst false sz (toShds ((xs.drop lo).take n))) else none
  | _ => none
theorem snap_href : snap bad e (.href l sz lo n) = snapH (bad l) sz lo n (getE e l) := by
  simp only [snap]
  cases hb : bad l with
  | true =>
    simp only [if_true]
    cases getE e l with
    | none => rfl
    | some y =>
      cases y with
      | lst own sz2 xs => cases own <;> simp [snapH]
      | _ => rfl
  | false =>
    simp only [Bool.false_eq_true, if_false]
    cases getE e l with
    | none => rfl
    | some y =>
      cases y with
      | lst own sz2 xs => cases own <;> simp [snapH]
      | _ => rfl
theorem snapH_some {sz' : Nat} : snapH false sz lo n (some (.lst true sz' xs)) = if sz' = sz ∧ lo + n ≤ xs.length then some (.lst false sz (toShds ((xs.drop lo).take n))) else none := by simp [snapH]
def snapB (off : Nat) : Option (Nat × AVal) → Option AVal
  | some (off', y) => if off' = off ∧ noRef y = true then some (.ptr false (toShd y)) else none
  | none => none
def snapA (b : Bool) (i : Nat) (fs : List Nat) (off : Nat) : Option AVal → Option AVal
  | some node => if b = true then none else snapB off (nodeAt i fs node)
  | none => none
theorem snap_adr : snap bad e (.adr l i fs off) = snapA (bad l) i fs off (getE e l) := by
  simp only [snap]
  cases hb : bad l with
  | true =>
    simp only [if_true]
    cases getE e l <;> simp [snapA]
  | false =>
    simp only [Bool.false_eq_true, if_false]
    cases getE e l with
    | none => rfl
    | some node =>
      simp only [snapA, Bool.false_eq_true, if_false]
      cases nodeAt i fs node <;> rfl
theorem snapA_some {node : AVal} : snapA false i fs off (some node) = snapB off (nodeAt i fs node) := by simp [snapA]
theorem snapB_some {off' : Nat} {y : AVal} : snapB off (some (off', y)) = if off' = off ∧ noRef y = true then some (.ptr false (toShd y)) else none := nr rfl
theorem snaps_nil : snaps bad e [] = some [] := by simp only [snaps]
theorem snaps_cons : snaps bad e (x :: xs) = consO (snap bad e x) (snaps bad e xs) := by
  simp only [snaps, consO]
  cases snap bad e x <;> cases snaps bad e xs <;> rfl
theorem nthL_nil : nthL [] n = none := nr rfl
theorem nthL_cons : nthL (x :: xs) n = if n = 0 then some x else nthL xs (n - 1) := nr rfl
theorem wsTake_nil : wsTake [] n = 0 := nr rfl
theorem wsTake_cons : wsTake (x :: xs) n = if n = 0 then 0 else x.w + wsTake xs (n - 1) := nr rfl
theorem fldsOf_nil : fldsOf [] = [] := nr rfl
theorem fldsOf_cons : fldsOf (n :: fs) = .fld n :: fldsOf fs := nr rfl
theorem fuzzy_nil {p : List Step} : fuzzy [] p = true := by simp [fuzzy]
theorem fuzzy_cn {s : Step} {p : List Step} : fuzzy (s :: p) [] = false := by cases s <;> simp [fuzzy]
theorem fuzzy_ff {i j : Nat} {p q : List Step} : fuzzy (.fld i :: p) (.fld j :: q) = (i == j && fuzzy p q) := by simp [fuzzy]
theorem fuzzy_ii {i j : Nat} {p q : List Step} : fuzzy (.idx i :: p) (.idx j :: q) = fuzzy p q := by simp [fuzzy]
theorem fuzzy_fi {i j : Nat} {p q : List Step} : fuzzy (.fld i :: p) (.idx j :: q) = false := by simp [fuzzy]
theorem fuzzy_if {i j : Nat} {p q : List Step} : fuzzy (.idx i :: p) (.fld j :: q) = false := by simp [fuzzy]
end

/-! ### Lists of encoded things -/
theorem noRefs_map {α : Type} {f : α → AVal} {xs : List α} (h : ∀ x, noRef (f x) = true) : noRefs (xs.map f) = true := by
  induction xs with
  | nil => rfl
  | cons x xs ih => simp only [List.map_cons, noRefs, h, ih, Bool.and_self]
theorem closedAs_map {α : Type} {f : α → AVal} {xs : List α} (h : ∀ x, closedA (f x) = true) : closedAs (xs.map f) = true := by
  induction xs with
  | nil => rfl
  | cons x xs ih => simp only [List.map_cons, closedAs, h, ih, Bool.and_self]
theorem flatAs_map {α : Type} {f : α → AVal} {xs : List α} (h : ∀ x, flatA (f x) = true) : flatAs (xs.map f) = true := by
  induction xs with
  | nil => rfl
  | cons x xs ih => simp only [List.map_cons, flatAs, h, ih, Bool.and_self]
theorem toShds_flat {α : Type} {f : α → AVal} {xs : List α} (h : ∀ x, toShd (f x) = f x) : toShds (xs.map f) = xs.map f := by
  induction xs with
  | nil => rfl
  | cons x xs ih => simp only [List.map_cons, toShds, h, ih]
theorem toShds_mapTo {α : Type} {f g : α → AVal} {xs : List α} (h : ∀ x, toShd (f x) = g x) : toShds (xs.map f) = xs.map g := by
  induction xs with
  | nil => rfl
  | cons x xs ih => simp only [List.map_cons, toShds, h, ih]
theorem bytesA_eq {s : ByteArray} : bytesA s = s.data.toList.map byteA := nr rfl
theorem strOfA_map {xs : List UInt8} : strOfA (xs.map byteA) = some xs := by
  induction xs with
  | nil => rfl
  | cons b xs ih =>
    have h : byteOfA (byteA b) = some b := by
      simp only [byteA, byteOfA, Option.some.injEq]
      apply UInt8.toNat_inj.1
      have := b.toNat_lt
      simp
    simp only [List.map_cons, strOfA, h, ih]

/-! ### A number in its range -/
theorem wrap64 {n : Int} (h1 : -9223372036854775808 ≤ n) (h2 : n ≤ 9223372036854775807) : IntKind.i64.wrap n = n := wrap_in (by simpa [IntKind.min, IntKind.bits, IntKind.signed] using h1) (by simpa [IntKind.max, IntKind.bits, IntKind.signed] using h2)
theorem wrapU64 {n : Int} (h1 : 0 ≤ n) (h2 : n ≤ 18446744073709551615) : IntKind.u64.wrap n = n := wrap_in (by simpa [IntKind.min, IntKind.bits, IntKind.signed] using h1) (by simpa [IntKind.max, IntKind.bits, IntKind.signed] using h2)
theorem wrapU32 {n : Int} (h1 : 0 ≤ n) (h2 : n ≤ 4294967295) : IntKind.u32.wrap n = n := wrap_in (by simpa [IntKind.min, IntKind.bits, IntKind.signed] using h1) (by simpa [IntKind.max, IntKind.bits, IntKind.signed] using h2)
theorem wrapU8 {n : Int} (h1 : 0 ≤ n) (h2 : n ≤ 255) : IntKind.u8.wrap n = n := wrap_in (by simpa [IntKind.min, IntKind.bits, IntKind.signed] using h1) (by simpa [IntKind.max, IntKind.bits, IntKind.signed] using h2)

section
variable {k r : Nat} {x : AVal} {l : List (Nat × AVal)} {f : AVal → AVal} {ks : List Nat} {xs : List AVal} {e : Env} {rs : List Nat}
theorem mkE_nil' : mkE [] r = .undef := nr rfl
theorem mkE_cons' : mkE ((k, x) :: l) r = if r = k then x else mkE l r := nr rfl
theorem mapE_nil' : mapE f [] = [] := nr rfl
theorem mapE_cons' : mapE f ((k, x) :: l) = (k, f x) :: mapE f l := nr rfl
theorem delE_nil' : delE r [] = [] := nr rfl
theorem delE_cons' : delE r ((k, x) :: l) = if k = r then delE r l else (k, x) :: delE r l := nr rfl
theorem onlyE_nil' : onlyE ks f [] = [] := nr rfl
theorem onlyE_cons' : onlyE ks f ((k, x) :: l) = if ks.contains k = true then (k, f x) :: onlyE ks f l else onlyE ks f l := nr rfl
theorem numbered_nil' : numbered k [] = [] := nr rfl
theorem numbered_cons' : numbered k (x :: xs) = (k, x) :: numbered (k + 1) xs := nr rfl
theorem agrees_nil' : agrees e [] = True := nr rfl
theorem agrees_cons' : agrees e ((k, x) :: l) = (e k = x ∧ agrees e l) := nr rfl
theorem argsV_nil' : argsV e [] = [] := nr rfl
theorem argsV_cons' {o : Operand} {os : List Operand} : argsV e (o :: os) = opV e o :: argsV e os := nr rfl
theorem partsV_nil' : partsV e [] = [] := nr rfl
theorem partsV_cons' {o : Operand} {os : List (Nat × Operand)} : partsV e ((k, o) :: os) = (k, opV e o) :: partsV e os := nr rfl
theorem elsV_nil' {P : Program} {t : TypeId} : elsV P t e [] = [] := nr rfl
theorem elsV_cons' {P : Program} {t : TypeId} {o : Operand} {os : List (Nat × Operand)} : elsV P t e ((k, o) :: os) = fixNil P t (opV e o) :: elsV P t e os := nr rfl
theorem fstL_nil' : fstL [] = [] := nr rfl
theorem fstL_cons' {o : Operand} {os : List (Nat × Operand)} : fstL ((k, o) :: os) = k :: fstL os := nr rfl
theorem allEls_nil' : allEls k [] = True := nr rfl
theorem allEls_cons' : allEls k (x :: xs) = ((x.w = k ∧ noRef x = true ∧ stOk x = true) ∧ allEls k xs) := nr rfl
theorem comps_nil' {os : List Oper} : comps os [] = [] := nr rfl
theorem comps_cons' {os l : List Oper} {o : Oper} : comps os (o :: l) = compO os o :: comps os l := nr rfl
theorem compO_none {os : List Oper} {d : Option Tmp} {op : Op} {ty : TypeId} {pos : String} {after : Array Edge} : compO os ⟨d, op, ty, pos, after, none⟩ = ⟨d, op, ty, none⟩ := nr rfl
theorem compO_some {os : List Oper} {d : Option Tmp} {op : Op} {ty : TypeId} {pos : String} {after : Array Edge} {j : Nat} {b : Bool} : compO os ⟨d, op, ty, pos, after, some (j, b)⟩ = ⟨d, op, ty, some (dstL os j, b)⟩ := nr rfl
theorem dstL_cons' {os : List Oper} {d : Option Tmp} {op : Op} {ty : TypeId} {pos : String} {after : Array Edge} {g : Option (Nat × Bool)} : dstL (⟨d, op, ty, pos, after, g⟩ :: os) k = if k = 0 then d else dstL os (k - 1) := nr rfl
theorem opL_cons' {os : List Oper} {o : Oper} : opL (o :: os) k = if k = 0 then some o else opL os (k - 1) := nr rfl
theorem frzL_nil' : frzL rs [] = [] := nr rfl
theorem frzL_cons' : frzL rs ((k, x) :: l) = (k, if rs.contains k = true then toShd x else killP (fun m => rs.contains m.r) x) :: frzL rs l := nr rfl
theorem draws_nil' : Draws.at [] k = none := nr rfl
theorem draws_cons' {d : Draw} {l : Draws} : Draws.at ((r, d) :: l) k = if k = r then some d else Draws.at l k := nr rfl
theorem okL_nil' : okL [] = True := nr rfl
theorem okL_cons' : okL ((k, x) :: l) = (okA x ∧ okL l) := nr rfl
theorem lo_none : loI none = some 0 := nr rfl
theorem lo_int {q : IntKind} {n : Int} : loI (some (.lit (.int q n))) = some n := nr rfl
theorem hi_none : hiI none k = some (k : Int) := nr rfl
theorem hi_int {q : IntKind} {n : Int} : hiI (some (.lit (.int q n))) k = some n := nr rfl
theorem optV_none : optV e none = none := nr rfl
theorem optV_some {o : Operand} : optV e (some o) = some (opV e o) := nr rfl
theorem okA_lit {v : Value} : okA (.lit v) = litOk v := by simp only [okA]
theorem okA_agg : okA (.agg xs) = okAs xs := by simp only [okA]
theorem okA_tup : okA (.tup xs) = okAs xs := by simp only [okA]
theorem okA_lst {own : Bool} {sz : Nat} : okA (.lst own sz xs) = (xs.length ≤ maxLen ∧ okAs xs) := by simp only [okA]
theorem okA_ptr {own : Bool} : okA (.ptr own x) = okA x := by simp only [okA]
theorem okA_fn : okA (.fn k xs) = okAs xs := by simp only [okA]
theorem okAs_nil' : okAs [] = True := by simp only [okAs]
theorem okAs_cons' : okAs (x :: xs) = (okA x ∧ okAs xs) := by simp only [okAs]
theorem litOk_int {q : IntKind} {n : Int} : litOk (.int q n) = (q.min ≤ n ∧ n ≤ q.max) := nr rfl
theorem litOk_str {s : ByteArray} : litOk (.string s) = (s.size ≤ maxLen) := nr rfl
theorem toList_lit {os : List Oper} : os.toArray.toList = os := nr rfl
end
attribute [go_sem] kill_lit kill_ifc kill_undef kill_lst kill_ptrS kill_mpO kill_mpS kill_agg kill_tup kill_fn kill_ptrO kill_href kill_adr kill_mref kills_nil kills_cons copy_lit copy_ifc copy_undef copy_lstS copy_ptrS copy_mpS copy_href copy_adr copy_mref copy_agg copy_tup copy_fn copy_lstO copy_ptrO copy_mpO copys_nil copys_cons noRef_lit noRef_ifc noRef_undef noRef_agg noRef_tup noRef_lst noRef_ptrO noRef_ptrS noRef_fn noRef_mpO noRef_mpS noRef_href noRef_adr noRef_mref noRefs_nil noRefs_cons closed_lit closed_ifc closed_undef closed_agg closed_tup closed_lst closed_ptrO closed_ptrS closed_fn closed_mpO closed_mpS closeds_nil closeds_cons flat_lit flat_ifc flat_undef flat_agg flat_tup flat_lstO flat_lstS flat_ptrO flat_ptrS flat_fn flat_mpO flat_mpS flat_href flat_adr flat_mref flats_nil flats_cons rok_lit rok_ifc rok_undef rok_agg rok_tup rok_lst rok_ptrO rok_ptrS rok_fn rok_mpO rok_mpS rok_href rok_adr rok_mref roks_nil roks_cons blank_lit blank_ifc blank_undef blank_lstS blank_ptrS blank_mpS blank_href blank_adr blank_mref blank_lstO blank_ptrO blank_mpO blank_agg blank_fn blanks_nil blanks_cons shd_lit shd_ifc shd_undef shd_href shd_adr shd_mref shd_agg shd_tup shd_fn shd_lst shd_ptrO shd_mp shds_nil shds_cons stOk_lit isUndef_lit isAgg_lit capOk_lit isNilList_lit stOk_ifc isUndef_ifc isAgg_ifc capOk_ifc isNilV_ifc isNilList_ifc stOk_undef isUndef_undef isAgg_undef capOk_undef isNilV_undef isNilList_undef stOk_agg isUndef_agg isAgg_agg capOk_agg isNilV_agg isNilList_agg stOk_tup isUndef_tup isAgg_tup capOk_tup isNilV_tup isNilList_tup stOk_lst isUndef_lst isAgg_lst capOk_lst isNilV_lst stOk_lstO isUndef_lstO isAgg_lstO capOk_lstO isNilV_lstO stOk_lstS isUndef_lstS isAgg_lstS capOk_lstS isNilV_lstS isNilList_lstS stOk_ptrO isUndef_ptrO isAgg_ptrO capOk_ptrO isNilV_ptrO isNilList_ptrO stOk_ptrS isUndef_ptrS isAgg_ptrS capOk_ptrS isNilV_ptrS isNilList_ptrS stOk_mpO isUndef_mpO isAgg_mpO capOk_mpO isNilV_mpO isNilList_mpO stOk_mpS isUndef_mpS isAgg_mpS capOk_mpS isNilV_mpS isNilList_mpS stOk_fn isUndef_fn isAgg_fn capOk_fn isNilV_fn isNilList_fn stOk_href isUndef_href isAgg_href capOk_href isNilV_href isNilList_href stOk_adr isUndef_adr isAgg_adr capOk_adr isNilV_adr isNilList_adr stOk_mref isUndef_mref isAgg_mref capOk_mref isNilV_mref isNilList_mref isNilList_nil fix_ifc fix_undef fix_agg fix_tup fix_lst fix_lstO fix_lstS fix_ptrO fix_ptrS fix_mpO fix_mpS fix_fn fix_href fix_adr fix_mref fix_intL isNilV_intL fix_boolL isNilV_boolL fix_strL isNilV_strL fix_nilIL isNilV_nilIL fix_nilFL isNilV_nilFL fix_ptrNL isNilV_ptrNL fix_mapNL isNilV_mapNL isNilV_nil fix_nil fixT_some opV_tmp opV_const opV_func snap_lit snap_ifc snap_undef snap_lstS snap_ptrS snap_mpS aggO_some snap_agg fnO_some snap_fn snap_href snapH_some snap_adr snapA_some snapB_some snaps_nil snaps_cons nthL_nil nthL_cons wsTake_nil wsTake_cons fldsOf_nil fldsOf_cons fuzzy_nil fuzzy_cn fuzzy_ff fuzzy_ii fuzzy_fi fuzzy_if noRefs_map closedAs_map flatAs_map toShds_flat bytesA_eq strOfA_map vm_skip vm_label vm_exit vm_ret vm_seq vm_block vm_region vm_drawn drawK_chain drawK_tree vm_cond branch_true branch_false f_nil f_nilr f_code f_codex f_coder f_end f_endx f_endr f_again f_againx f_againr f_stop next_eq thenI_eq thenE_eq thenB_eq thenL_eq r_guard r_guardn gj_tt gj_ff gj_tf gj_ft gj_nil r_move r_assign r_bin r_un r_pick r_load r_nilCheck r_fieldAddr r_field r_indexAddr r_index r_extract r_alloc r_box r_build r_slice r_convert r_makeFunc r_len r_call fnK_fn r_callt r_append getE_mk loc_fld loc_idx loc_flds getQ_some getP_nil getP_agg getP_tup getP_ptr getP_lst setL_nil setL_cons putP_nil putP_agg putP_tup putP_ptr addF_some getFQ_some getF_nil getF_agg putF_nil putF_agg w_agg w_lit w_lst w_href w_adr w_ptr w_fn w_undef w_ifc ws_nil ws_cons elemAt_eq nodeAt_ptr load_ptr load_adr loadN_some loadA_some loadA_map loadA_cons putO_some putO_none tgt_some tgt_none restrict_mk notKept_mk killRoots_mk below_mk near_mk mvr_mk retM_mk takeE_mk clr_mk setN0_mk setN_mk r_storeJ thenS_eq stAdr_adr stN_some stAt_some stAt_map stAt_cons stVal_true stVal_false stGo_eq stMv_eq stEndN_some stEnd_some stEnd_map storeOk_eq nodePut0_lst nodePut0_ptr nodePut_lst nodePut_ptr viaLst_nil viaLst_ptr viaLst_lst viaQ_some viaLst_agg modify_map mv_lit mv_undef mv_ifc mv_lst mv_ptr mv_fn mv_href mv_adr mvHref_true mvHref_false mvAdr_true mvAdr_false mv_agg aggC_eq mvs_nil mvs_cons mvNext_eq appendK_eq appT_some appC_str appC_lst appC_href appBase_nil appBase_href appH_some elems_lst elems_lit elems_href elsQ_some endC_none endT_none endC_some endT_some endP_ptr retK_eq retJ_one retJ_nil retJ_two consO_some retVs_nil retVs_cons retV_tmp retV_cell retCell_adr retN_some retA_some b_add b_sub b_mul b_quo b_rem b_and b_or b_xor b_shl b_shr b_eql b_neq b_lss b_leq b_gtr b_geq s_add s_eql s_neq s_lss s_gtr s_leq s_geq b_bool boolK_eql boolK_neq b_agg aggEqP_some aggEqK_eql aggEqK_neq b_nilLst b_nilHref nilEqT_some u_not u_neg u_xor unK_some allocK_some nilCheck_adr nilCheck_ptr fieldAddr_adr fieldAddr_ptr fptrK_some field_some indexAddr_lst indexAddr_href ixK_map len_str len_lst len_href extract_tup extK_some index_str makeFunc_eq build_some buildS_some setParts_nil setParts_cons setP_some okAs_map
/-- both ways at a guard -/
theorem gj_split {p q : Prop} [Decidable p] (h1 : p → q) (h2 : ¬ p → q) : q := if h : p then h1 h else h2 h
theorem gj_dec {p : Prop} [Decidable p] {want : Bool} {c : Ctx} {qt : Bool} {rid : Nat} {d : Option Tmp} {op : Op} {ty : TypeId} {ss : List Ins} {e : Env} {K : Env → Prop} (h1 : p → guardJ (.lit (.bool (decide p))) want c qt rid d op ty ss e K)
    (h2 : ¬ p → guardJ (.lit (.bool (decide p))) want c qt rid d op ty ss e K) : guardJ (.lit (.bool (decide p))) want c qt rid d op ty ss e K := if h : p then h1 h else h2 h
theorem gj_ndec {p : Prop} [Decidable p] {want : Bool} {c : Ctx} {qt : Bool} {rid : Nat} {d : Option Tmp} {op : Op} {ty : TypeId} {ss : List Ins} {e : Env} {K : Env → Prop} (h1 : p → guardJ (.lit (.bool (decide (¬ p)))) want c qt rid d op ty ss e K)
    (h2 : ¬ p → guardJ (.lit (.bool (decide (¬ p)))) want c qt rid d op ty ss e K) : guardJ (.lit (.bool (decide (¬ p)))) want c qt rid d op ty ss e K := if h : p then h1 h else h2 h
theorem branch_ndec {c : Ctx} {pl : Draws} {R : Env → Prop} {fs : List Frame} {e : Env} {x y : Code} {p : Prop} [Decidable p] (h1 : p → vm c pl y (fQ c pl R fs) e) (h2 : ¬ p → vm c pl x (fQ c pl R fs) e) : branchK c pl R fs (.lit (.bool (decide (¬ p)))) x y e :=
  ⟨_, rfl, fun h => h2 (of_decide_eq_true h), fun h => h1 (Decidable.not_not.1 (of_decide_eq_false h))⟩
theorem branch_nbool {c : Ctx} {pl : Draws} {R : Env → Prop} {fs : List Frame} {e : Env} {x y : Code} {b : Bool} (h1 : b = true → vm c pl y (fQ c pl R fs) e) (h2 : b = false → vm c pl x (fQ c pl R fs) e) : branchK c pl R fs (.lit (.bool (!b))) x y e :=
  ⟨_, rfl, fun h => h2 (by simpa using h), fun h => h1 (by simpa using h)⟩
theorem gj_nbool {b : Bool} {want : Bool} {c : Ctx} {qt : Bool} {rid : Nat} {d : Option Tmp} {op : Op} {ty : TypeId} {ss : List Ins} {e : Env} {K : Env → Prop} (h1 : b = true → guardJ (.lit (.bool (!b))) want c qt rid d op ty ss e K)
    (h2 : b = false → guardJ (.lit (.bool (!b))) want c qt rid d op ty ss e K) : guardJ (.lit (.bool (!b))) want c qt rid d op ty ss e K := by cases b <;> simp_all
theorem gj_bool {b : Bool} {want : Bool} {c : Ctx} {qt : Bool} {rid : Nat} {d : Option Tmp} {op : Op} {ty : TypeId} {ss : List Ins} {e : Env} {K : Env → Prop} (h1 : b = true → guardJ (.lit (.bool b)) want c qt rid d op ty ss e K)
    (h2 : b = false → guardJ (.lit (.bool b)) want c qt rid d op ty ss e K) : guardJ (.lit (.bool b)) want c qt rid d op ty ss e K := by cases b <;> simp_all

/-! ### Regions whose order is drawn -/
def chainK (c : Ctx) (qt : Bool) (rid : Nat) (os : List Oper) (is : List Nat) (K : Env → Prop) : Env → Prop := fun e => regC c qt rid os is e K
def chainT (c : Ctx) (qt : Bool) (rid : Nat) (os : List Oper) (is : List Nat) (e : Env) (K : Env → Prop) : Option Oper → Prop
  | some o => regI c qt rid [compO os o] e (chainK c qt rid os is K)
  | none => False
def treeK (c : Ctx) (qt : Bool) (rid : Nat) (os : List Oper) (p : Plan) (K : Env → Prop) : Env → Prop := fun e => regQ c qt rid os p e K
def treeT (c : Ctx) (qt : Bool) (rid : Nat) (os : List Oper) (p : Plan) (e : Env) (K : Env → Prop) : Option Oper → Prop
  | some o => regI c qt rid [compO os o] e (treeK c qt rid os p K)
  | none => False
section
variable {c : Ctx} {qt : Bool} {rid i : Nat} {os : List Oper} {is : List Nat} {p : Plan} {ps : Plans} {e : Env} {K : Env → Prop} {o : Oper}
theorem regC_nil' : regC c qt rid os [] e K = K e := nr rfl
theorem regC_cons' : regC c qt rid os (i :: is) e K = chainT c qt rid os is e K (opL os i) := by
  simp only [regC]
  cases opL os i <;> rfl
theorem chainT_some : chainT c qt rid os is e K (some o) = regI c qt rid [compO os o] e (chainK c qt rid os is K) := nr rfl
theorem chainK_eq : chainK c qt rid os is K e = regC c qt rid os is e K := nr rfl
theorem regQ_done : regQ c qt rid os .done e K = K e := by simp only [regQ]
theorem regQ_take : regQ c qt rid os (.take i p) e K = treeT c qt rid os p e K (opL os i) := by
  simp only [regQ]
  cases opL os i <;> rfl
theorem regQ_all : regQ c qt rid os (.all ps) e K = regQs c qt rid os ps e K := by simp only [regQ]
theorem regQs_nil : regQs c qt rid os .nil e K = True := by simp only [regQs]
theorem regQs_cons : regQs c qt rid os (.cons i p ps) e K = (treeT c qt rid os p e K (opL os i) ∧ regQs c qt rid os ps e K) := by
  simp only [regQs]
  cases opL os i <;> rfl
theorem treeT_some : treeT c qt rid os p e K (some o) = regI c qt rid [compO os o] e (treeK c qt rid os p K) := nr rfl
theorem treeK_eq : treeK c qt rid os p K e = regQ c qt rid os p e K := nr rfl
theorem ri_nil' : regI c qt rid [] e K = K e := nr rfl
end
attribute [go_sem] appE_eq mutE_eq setO_some regC_nil' regC_cons' chainT_some chainK_eq regQ_done regQ_take regQ_all regQs_nil regQs_cons treeT_some treeK_eq ri_nil'
theorem bnot_dec {p : Prop} [Decidable p] : (!decide p) = decide (¬ p) := (decide_not (p := p)).symm
theorem take_len_map {α : Type} {f : α → AVal} {xs : List α} : List.take xs.length (xs.map f) = xs.map f := by
  have := List.take_length (l := xs.map f)
  rwa [List.length_map] at this
attribute [go_sem] take_len_map Nat.le_refl
theorem maxLen_eq : maxLen = 9223372036854775807 := by decide
theorem min_i64 : IntKind.i64.min = -9223372036854775808 := by decide
theorem max_i64 : IntKind.i64.max = 9223372036854775807 := by decide
theorem min_i32 : IntKind.i32.min = -2147483648 := by decide
theorem max_i32 : IntKind.i32.max = 2147483647 := by decide
theorem min_i16 : IntKind.i16.min = -32768 := by decide
theorem max_i16 : IntKind.i16.max = 32767 := by decide
theorem min_i8 : IntKind.i8.min = -128 := by decide
theorem max_i8 : IntKind.i8.max = 127 := by decide
theorem min_u64 : IntKind.u64.min = 0 := by decide
theorem max_u64 : IntKind.u64.max = 18446744073709551615 := by decide
theorem min_u32 : IntKind.u32.min = 0 := by decide
theorem max_u32 : IntKind.u32.max = 4294967295 := by decide
theorem min_u16 : IntKind.u16.min = 0 := by decide
theorem max_u16 : IntKind.u16.max = 65535 := by decide
theorem min_u8 : IntKind.u8.min = 0 := by decide
theorem max_u8 : IntKind.u8.max = 255 := by decide
attribute [go_sem] maxLen_eq min_i64 max_i64 min_i32 max_i32 min_i16 max_i16 min_i8 max_i8 min_u64 max_u64 min_u32 max_u32 min_u16 max_u16 min_u8 max_u8
/-! ### Values that are shared, whatever they are -/
mutual
def shdA : AVal → Bool
  | .undef => true
  | .lit _ => true
  | .ifc => true
  | .agg xs => shdAs xs
  | .lst false _ _ => true
  | .ptr false _ => true
  | .mp false _ => true
  | .fn _ caps => shdAs caps
  | _ => false
def shdAs : List AVal → Bool
  | [] => true
  | x :: xs => shdA x && shdAs xs
end
mutual
theorem shd_kill {d : Loc → Bool} : ∀ (x : AVal), shdA x = true → killP d x = x
  | .undef, _ => by simp only [killP]
  | .lit _, _ => by simp only [killP]
  | .ifc, _ => by simp only [killP]
  | .agg xs, h => by simp only [shdA] at h; simp only [killP, shds_kill xs h]
  | .lst false _ _, _ => by simp only [killP]
  | .ptr false _, _ => by simp only [killP]
  | .mp false _, _ => by simp only [killP]
  | .fn _ caps, h => by simp only [shdA] at h; simp only [killP, shds_kill caps h]
  | .tup _, h => by simp [shdA] at h
  | .lst true _ _, h => by simp [shdA] at h
  | .ptr true _, h => by simp [shdA] at h
  | .mp true _, h => by simp [shdA] at h
  | .href .., h => by simp [shdA] at h
  | .adr .., h => by simp [shdA] at h
  | .mref _, h => by simp [shdA] at h
theorem shds_kill {d : Loc → Bool} : ∀ (xs : List AVal), shdAs xs = true → killPs d xs = xs
  | [], _ => by simp only [killPs]
  | x :: xs, h => by
    simp only [shdAs, Bool.and_eq_true] at h
    simp only [killPs, shd_kill x h.1, shds_kill xs h.2]
end
mutual
theorem shd_copy : ∀ (x : AVal) (l : Loc), shdA x = true → copyOut l x = x
  | .undef, _, _ => by simp only [copyOut]
  | .lit _, _, _ => by simp only [copyOut]
  | .ifc, _, _ => by simp only [copyOut]
  | .agg xs, l, h => by simp only [shdA] at h; simp only [copyOut, shds_copy xs l 0 h]
  | .lst false _ _, _, _ => by simp only [copyOut]
  | .ptr false _, _, _ => by simp only [copyOut]
  | .mp false _, _, _ => by simp only [copyOut]
  | .fn _ caps, l, h => by simp only [shdA] at h; simp only [copyOut, shds_copy caps l 0 h]
  | .tup _, _, h => by simp [shdA] at h
  | .lst true _ _, _, h => by simp [shdA] at h
  | .ptr true _, _, h => by simp [shdA] at h
  | .mp true _, _, h => by simp [shdA] at h
  | .href .., _, h => by simp [shdA] at h
  | .adr .., _, h => by simp [shdA] at h
  | .mref _, _, h => by simp [shdA] at h
theorem shds_copy : ∀ (xs : List AVal) (l : Loc) (k : Nat), shdAs xs = true → copyOuts l k xs = xs
  | [], _, _, _ => by simp only [copyOuts]
  | x :: xs, l, k, h => by
    simp only [shdAs, Bool.and_eq_true] at h
    simp only [copyOuts, shd_copy x _ h.1, shds_copy xs l (k + 1) h.2]
end
mutual
theorem shd_snap {bad : Loc → Bool} {e : Env} : ∀ (x : AVal), shdA x = true → snap bad e x = some x
  | .undef, _ => by simp only [snap]
  | .lit _, _ => by simp only [snap]
  | .ifc, _ => by simp only [snap]
  | .agg xs, h => by simp only [shdA] at h; simp only [snap, shds_snap xs h]
  | .lst false _ _, _ => by simp only [snap]
  | .ptr false _, _ => by simp only [snap]
  | .mp false _, _ => by simp only [snap]
  | .fn _ caps, h => by simp only [shdA] at h; simp only [snap, shds_snap caps h]
  | .tup _, h => by simp [shdA] at h
  | .lst true _ _, h => by simp [shdA] at h
  | .ptr true _, h => by simp [shdA] at h
  | .mp true _, h => by simp [shdA] at h
  | .href .., h => by simp [shdA] at h
  | .adr .., h => by simp [shdA] at h
  | .mref _, h => by simp [shdA] at h
theorem shds_snap {bad : Loc → Bool} {e : Env} : ∀ (xs : List AVal), shdAs xs = true → snaps bad e xs = some xs
  | [], _ => by simp only [snaps]
  | x :: xs, h => by
    simp only [shdAs, Bool.and_eq_true] at h
    simp only [snaps, shd_snap x h.1, shds_snap xs h.2]
end
section
variable {xs : List AVal} {x : AVal} {own : Bool} {sz : Nat} {v : Value} {f : Nat} {es : List (Value × Value)}
theorem shdA_lit : shdA (.lit v) = true := by simp only [shdA]
theorem shdA_undef : shdA .undef = true := by simp only [shdA]
theorem shdA_agg : shdA (.agg xs) = shdAs xs := by simp only [shdA]
theorem shdA_lst : shdA (.lst false sz xs) = true := by simp only [shdA]
theorem shdA_ptr : shdA (.ptr false x) = true := by simp only [shdA]
theorem shdA_fn : shdA (.fn f xs) = shdAs xs := by simp only [shdA]
theorem shdAs_nil : shdAs [] = true := by simp only [shdAs]
theorem shdAs_cons : shdAs (x :: xs) = (shdA x && shdAs xs) := by simp only [shdAs]
end
attribute [go_sem] shdA_lit shdA_undef shdA_agg shdA_lst shdA_ptr shdA_fn shdAs_nil shdAs_cons
attribute [go_sem] Int.toNat_natCast
attribute [go_sem] AVal.lit.injEq AVal.agg.injEq AVal.tup.injEq AVal.lst.injEq AVal.ptr.injEq AVal.fn.injEq Value.int.injEq Value.bool.injEq Value.string.injEq List.cons.injEq Value.slice.injEq
theorem getD_mem {α : Type} [Inhabited α] {xs : List α} {i : Nat} (h : i < xs.length) : xs.getD i default ∈ xs := by
  simp only [List.getD, List.getElem?_eq_getElem h, Option.getD_some]
  exact List.getElem_mem h
theorem take_succ_getD {α : Type} [Inhabited α] {xs : List α} {i : Nat} (h : i < xs.length) : xs.take (i + 1) = xs.take i ++ [xs.getD i default] := by
  rw [List.take_succ_eq_append_getElem h]
  simp [List.getD, List.getElem?_eq_getElem h]
/-! ### Rows of elements -/
def isUp : Nat → List Nat → Nat → Bool
  | k, [], n => k == n
  | k, x :: xs, n => x == k && isUp (k + 1) xs n
theorem isUp_eq : ∀ (xs : List Nat) (k n : Nat), isUp k xs n = true ↔ k ≤ n ∧ xs = List.range' k (n - k)
  | [], k, n => by
    simp only [isUp, beq_iff_eq]
    constructor
    · rintro rfl
      simp
    · rintro ⟨h1, h2⟩
      have := congrArg List.length h2
      simp at this
      omega
  | x :: xs, k, n => by
    simp only [isUp, Bool.and_eq_true, beq_iff_eq, isUp_eq xs (k + 1) n]
    constructor
    · rintro ⟨rfl, h1, h2⟩
      refine ⟨by omega, ?_⟩
      rw [show n - x = (n - (x + 1)) + 1 by omega, List.range'_succ, h2]
    · rintro ⟨h1, h2⟩
      have hk : k < n := by
        apply Nat.lt_of_not_le
        intro h
        rw [show n - k = 0 by omega] at h2
        simp at h2
      rw [show n - k = (n - (k + 1)) + 1 by omega, List.range'_succ] at h2
      simp only [List.cons.injEq] at h2
      exact ⟨h2.1, hk, h2.2⟩
theorem buildSlice_eq {P : Program} {el : TypeId} {len : Nat} {ks : List Nat} {mvr : Nat → Bool} {xs : List AVal} {e : Env} {K : List AVal → Env → Prop} :
    buildSliceK P el len ks (moveVs mvr xs e) K = ((isUp 0 ks len = true ∧ 0 < P.cellsOf el ∧ len * P.cellsOf el ≤ 16777216 ∧ (zeroOf P el).isSome = true) ∧ moveKs mvr xs [] e K) := by
  have h : (ks = List.range len) = (isUp 0 ks len = true) := by
    apply propext
    rw [isUp_eq, List.range_eq_range']
    simp
  simp only [buildSliceK, h, moveKs, movesK, List.nil_append, and_assoc]
  rfl
theorem isUp_nil {k n : Nat} : isUp k [] n = (k == n) := nr rfl
theorem isUp_cons {k n x : Nat} {xs : List Nat} : isUp k (x :: xs) n = (x == k && isUp (k + 1) xs n) := nr rfl
def bsT (P : Program) (n : Nat) (ks : List Nat) (mvr : Nat → Bool) (os : List (Nat × Operand)) (e : Env) (c : Ctx) (qt : Bool) (rid : Nat) (d : Option Tmp) (ss : List Ins) (K : Env → Prop) : Option TypeId → Prop
  | some el => (isUp 0 ks n = true ∧ 0 < P.cellsOf el ∧ n * P.cellsOf el ≤ 16777216 ∧ (zeroOf P el).isSome = true) ∧ moveKs mvr (elsV P el e os) [] e (thenL c qt rid d ss K (P.cellsOf el))
  | none => False
theorem r_buildSlice2 {c : Ctx} {qt : Bool} {rid : Nat} {e : Env} {K : Env → Prop} {d : Option Tmp} {ty : TypeId} {ss : List Ins} {t : TypeId} {n : Nat} {ps : List (Nat × Operand)} :
    regI c qt rid (⟨d, .buildSlice t n ps.toArray, ty, none⟩ :: ss) e K = bsT c.g.P n (fstL ps) (c.mvr rid (tgt c d)) ps e c qt rid d ss K (elemT c.g.P t) := by
  rw [r_buildSlice]
  cases elemT c.g.P t with
  | none => rfl
  | some el => simp only [buildSlice_eq, bsT]
theorem bsT_some {P : Program} {n : Nat} {ks : List Nat} {mvr : Nat → Bool} {os : List (Nat × Operand)} {e : Env} {c : Ctx} {qt : Bool} {rid : Nat} {d : Option Tmp} {ss : List Ins} {K : Env → Prop} {el : TypeId} :
    bsT P n ks mvr os e c qt rid d ss K (some el) = ((isUp 0 ks n = true ∧ 0 < P.cellsOf el ∧ n * P.cellsOf el ≤ 16777216 ∧ (zeroOf P el).isSome = true) ∧ moveKs mvr (elsV P el e os) [] e (thenL c qt rid d ss K (P.cellsOf el))) := nr rfl
def msT (P : Program) (n m : AVal) (K : AVal → Prop) : Option TypeId → Prop
  | some el => makeSliceK P (some el) (zeroOf P el) n m K
  | none => False
theorem r_makeSlice2 {c : Ctx} {qt : Bool} {rid : Nat} {e : Env} {K : Env → Prop} {d : Option Tmp} {ty : TypeId} {ss : List Ins} {t : TypeId} {n m : Operand} :
    regI c qt rid (⟨d, .makeSlice t n m, ty, none⟩ :: ss) e K = msT c.g.P (opV e n) (opV e m) (thenI c qt rid d ss K e) (elemT c.g.P t) := by
  rw [r_makeSlice]
  cases elemT c.g.P t <;> rfl
theorem msT_some {P : Program} {n m : AVal} {K : AVal → Prop} {el : TypeId} : msT P n m K (some el) = makeSliceK P (some el) (zeroOf P el) n m K := nr rfl
theorem makeSlice_int {P : Program} {el : TypeId} {z : AVal} {n m : Int} {K : AVal → Prop} : makeSliceK P (some el) (some z) (.lit (.int .i64 n)) (.lit (.int .i64 m)) K = (0 ≤ n ∧ n ≤ m ∧ fits P el m.toNat ∧ 0 < z.w ∧ K (.lst true (P.cellsOf el) (List.replicate n.toNat z))) := nr rfl
attribute [go_sem] isUp_nil isUp_cons r_buildSlice2 bsT_some r_makeSlice2 msT_some makeSlice_int List.take_zero List.map_nil List.take_nil List.drop_nil
theorem take_lit {α : Type} {n : Nat} {x : α} {xs : List α} : List.take n (x :: xs) = if n = 0 then [] else x :: List.take (n - 1) xs := by
  cases n with
  | zero => simp
  | succ n => simp
theorem take_map_app {α : Type} {f : α → AVal} {xs : List α} {ys : List AVal} {k : Nat} : List.take (xs.length + k) (xs.map f ++ ys) = xs.map f ++ List.take k ys := by
  have := List.take_length_add_append (l₁ := xs.map f) (l₂ := ys) k
  rwa [List.length_map] at this
theorem noRefs_app {xs ys : List AVal} : noRefs (xs ++ ys) = (noRefs xs && noRefs ys) := by
  simp only [noRefs_all, List.all_append]
theorem flatAs_app : ∀ {xs ys : List AVal}, flatAs (xs ++ ys) = (flatAs xs && flatAs ys)
  | [], ys => by simp [flatAs]
  | x :: xs, ys => by simp only [List.cons_append, flatAs, flatAs_app (xs := xs), Bool.and_assoc]
theorem closedAs_app : ∀ {xs ys : List AVal}, closedAs (xs ++ ys) = (closedAs xs && closedAs ys)
  | [], ys => by simp [closedAs]
  | x :: xs, ys => by simp only [List.cons_append, closedAs, closedAs_app (xs := xs), Bool.and_assoc]
theorem noRefs_rep {n : Nat} {z : AVal} (h : noRef z = true) : noRefs (List.replicate n z) = true := by
  induction n with
  | zero => rfl
  | succ n ih => simp only [List.replicate_succ, noRefs, h, ih, Bool.and_self]
theorem flatAs_rep {n : Nat} {z : AVal} (h : flatA z = true) : flatAs (List.replicate n z) = true := by
  induction n with
  | zero => rfl
  | succ n ih => simp only [List.replicate_succ, flatAs, h, ih, Bool.and_self]
theorem closedAs_rep {n : Nat} {z : AVal} (h : closedA z = true) : closedAs (List.replicate n z) = true := by
  induction n with
  | zero => rfl
  | succ n ih => simp only [List.replicate_succ, closedAs, h, ih, Bool.and_self]
theorem isPtr_ptr {own : Bool} {x : AVal} : isPtr (.ptr own x) = true := nr rfl
theorem isPtr_lst {own : Bool} {sz : Nat} {xs : List AVal} : isPtr (.lst own sz xs) = false := nr rfl
attribute [go_sem] and_self or_self take_lit take_map_app noRefs_app flatAs_app closedAs_app noRefs_rep flatAs_rep closedAs_rep isPtr_ptr isPtr_lst List.map_append List.map_cons
def andO (b : Bool) : Option Bool → Option Bool
  | some c => some (b && c)
  | none => none
theorem andO_some {b c : Bool} : andO b (some c) = some (b && c) := nr rfl
theorem eqAgg_nil : eqAgg [] [] [] = some true := nr rfl
theorem eqAgg_int {ks : List Nat} {k : IntKind} {a b : Int} {xs ys : List AVal} : eqAgg (0 :: ks) (.lit (.int k a) :: xs) (.lit (.int k b) :: ys) = andO (decide (a = b)) (eqAgg ks xs ys) := by
  have : (a == b) = decide (a = b) := by by_cases h : a = b <;> simp [h]
  simp only [eqAgg, eqLit, if_true, this]
  cases eqAgg ks xs ys <;> rfl
theorem eqAgg_bool {ks : List Nat} {a b : Bool} {xs ys : List AVal} : eqAgg (1 :: ks) (.lit (.bool a) :: xs) (.lit (.bool b) :: ys) = andO (a == b) (eqAgg ks xs ys) := by
  simp only [eqAgg, eqLit]
  cases eqAgg ks xs ys <;> rfl
theorem eqAgg_str {ks : List Nat} {a b : ByteArray} {xs ys : List AVal} : eqAgg (2 :: ks) (.lit (.string a) :: xs) (.lit (.string b) :: ys) = andO (decide (a = b)) (eqAgg ks xs ys) := by
  simp only [eqAgg, eqLit, ba_beq]
  cases eqAgg ks xs ys <;> rfl
attribute [go_sem] andO_some eqAgg_nil eqAgg_int eqAgg_bool eqAgg_str
/-! ### Conversions and slices -/
def cvInt (n : Int) (K : AVal → Prop) : Option TypeDesc → Option TypeDesc → Prop
  | some _, some (.int k) => K (.lit (.int k (k.wrap n)))
  | _, _ => False
theorem cv_int {P : Program} {s d : TypeId} {k : IntKind} {n : Int} {els : Option (Nat × List AVal)} {K : AVal → Prop} : convertK P s d (.lit (.int k n)) els K = cvInt n K (P.underlying s) (P.underlying d) := by
  simp only [convertK, cvInt]
  rfl
theorem cvInt_some {n : Int} {K : AVal → Prop} {x : TypeDesc} {k : IntKind} : cvInt n K (some x) (some (.int k)) = K (.lit (.int k (k.wrap n))) := nr rfl
def cvBytes (P : Program) (el : TypeId) (s : ByteArray) (K : AVal → Prop) : Option TypeDesc → Prop
  | some (.int .u8) => P.cellsOf el = 1 ∧ K (.lst true 1 (bytesA s))
  | _ => False
def cvStr (P : Program) (s : ByteArray) (K : AVal → Prop) : Option TypeDesc → Option TypeDesc → Prop
  | some .string, some .string => K (.lit (.string s))
  | some .string, some (.slice el) => cvBytes P el s K (P.underlying el)
  | _, _ => False
theorem cv_str {P : Program} {s d : TypeId} {v : ByteArray} {els : Option (Nat × List AVal)} {K : AVal → Prop} : convertK P s d (.lit (.string v)) els K = cvStr P v K (P.underlying s) (P.underlying d) := by
  simp only [convertK, cvStr, cvBytes]
  rfl
theorem cvStr_str {P : Program} {s : ByteArray} {K : AVal → Prop} : cvStr P s K (some .string) (some .string) = K (.lit (.string s)) := nr rfl
theorem cvStr_bytes {P : Program} {s : ByteArray} {K : AVal → Prop} {el : TypeId} : cvStr P s K (some .string) (some (.slice el)) = cvBytes P el s K (P.underlying el) := nr rfl
theorem cvBytes_u8 {P : Program} {s : ByteArray} {K : AVal → Prop} {el : TypeId} : cvBytes P el s K (some (.int .u8)) = (P.cellsOf el = 1 ∧ K (.lst true 1 (bytesA s))) := nr rfl
def cvOut (K : AVal → Prop) : Option TypeDesc → Option (List UInt8) → Prop
  | some (.int .u8), some bs => K (.lit (.string ⟨bs.toArray⟩))
  | _, _ => False
def cvLst (P : Program) (K : AVal → Prop) : Option (Nat × List AVal) → Option TypeDesc → Option TypeDesc → Prop
  | some (1, xs), some (.slice el), some .string => cvOut K (P.underlying el) (strOfA xs)
  | _, _, _ => False
theorem cv_lst {P : Program} {s d : TypeId} {own : Bool} {sz : Nat} {ys : List AVal} {els : Option (Nat × List AVal)} {K : AVal → Prop} : convertK P s d (.lst own sz ys) els K = cvLst P K els (P.underlying s) (P.underlying d) := by
  simp only [convertK, cvLst, cvOut]
  rfl
theorem cv_href {P : Program} {s d : TypeId} {l : Loc} {sz lo n : Nat} {els : Option (Nat × List AVal)} {K : AVal → Prop} : convertK P s d (.href l sz lo n) els K = cvLst P K els (P.underlying s) (P.underlying d) := by
  simp only [convertK, cvLst, cvOut]
  rfl
theorem cvLst_some {P : Program} {xs : List AVal} {el : TypeId} {K : AVal → Prop} : cvLst P K (some (1, xs)) (some (.slice el)) (some .string) = cvOut K (P.underlying el) (strOfA xs) := nr rfl
theorem cvOut_some {bs : List UInt8} {K : AVal → Prop} : cvOut K (some (.int .u8)) (some bs) = K (.lit (.string ⟨bs.toArray⟩)) := nr rfl
def slStr (s : ByteArray) (K : AVal → Prop) : Option TypeDesc → Option Int → Option Int → Prop
  | some .string, some l, some h => 0 ≤ l ∧ l ≤ h ∧ h ≤ s.size ∧ K (.lit (.string (s.extract l.toNat h.toNat)))
  | _, _, _ => False
theorem slice_str {P : Program} {t : TypeId} {s : ByteArray} {lo hi : Option AVal} {K : AVal → Prop} : sliceK P t (.lit (.string s)) lo hi K = slStr s K (P.underlying t) (loI lo) (hiI hi s.size) := by
  simp only [sliceK]
  cases P.underlying t with
  | none => rfl
  | some d =>
    cases d with
    | string => cases loI lo <;> cases hiI hi s.size <;> rfl
    | _ => rfl
theorem slStr_some {s : ByteArray} {l h : Int} {K : AVal → Prop} : slStr s K (some .string) (some l) (some h) = (0 ≤ l ∧ l ≤ h ∧ h ≤ s.size ∧ K (.lit (.string (s.extract l.toNat h.toNat)))) := nr rfl
def slLst (P : Program) (sz : Nat) (xs : List AVal) (K : AVal → Prop) : Option TypeId → Option Int → Option Int → Prop
  | some el, some l, some h => P.cellsOf el = sz ∧ 0 < sz ∧ 0 ≤ l ∧ l ≤ h ∧ h ≤ xs.length ∧ K (.lst false sz ((xs.drop l.toNat).take (h.toNat - l.toNat)))
  | _, _, _ => False
theorem slice_lst {P : Program} {t : TypeId} {sz : Nat} {xs : List AVal} {lo hi : Option AVal} {K : AVal → Prop} : sliceK P t (.lst false sz xs) lo hi K = slLst P sz xs K (elemT P t) (loI lo) (hiI hi xs.length) := by
  simp only [sliceK]
  cases elemT P t <;> rfl
theorem slLst_some {P : Program} {sz : Nat} {xs : List AVal} {el : TypeId} {l h : Int} {K : AVal → Prop} : slLst P sz xs K (some el) (some l) (some h) = (P.cellsOf el = sz ∧ 0 < sz ∧ 0 ≤ l ∧ l ≤ h ∧ h ≤ xs.length ∧ K (.lst false sz ((xs.drop l.toNat).take (h.toNat - l.toNat)))) := nr rfl
def slHref (P : Program) (loc : Loc) (sz lo0 n : Nat) (K : AVal → Prop) : Option TypeId → Option Int → Option Int → Prop
  | some el, some l, some h => P.cellsOf el = sz ∧ 0 < sz ∧ 0 ≤ l ∧ l ≤ h ∧ h ≤ n ∧ (l < h → K (.href loc sz (lo0 + l.toNat) (h.toNat - l.toNat))) ∧ (l = h → K (.lst false sz []))
  | _, _, _ => False
theorem slice_href {P : Program} {t : TypeId} {loc : Loc} {sz lo0 n : Nat} {lo hi : Option AVal} {K : AVal → Prop} : sliceK P t (.href loc sz lo0 n) lo hi K = slHref P loc sz lo0 n K (elemT P t) (loI lo) (hiI hi n) := by
  simp only [sliceK]
  cases elemT P t <;> rfl
theorem slHref_some {P : Program} {loc : Loc} {sz lo0 n : Nat} {el : TypeId} {l h : Int} {K : AVal → Prop} : slHref P loc sz lo0 n K (some el) (some l) (some h) = (P.cellsOf el = sz ∧ 0 < sz ∧ 0 ≤ l ∧ l ≤ h ∧ h ≤ n ∧ (l < h → K (.href loc sz (lo0 + l.toNat) (h.toNat - l.toNat))) ∧ (l = h → K (.lst false sz []))) := nr rfl
theorem drop_map {α : Type} {f : α → AVal} {xs : List α} {n : Nat} : List.drop n (xs.map f) = (xs.drop n).map f := by rw [List.map_drop]
theorem take_map {α : Type} {f : α → AVal} {xs : List α} {n : Nat} : List.take n (xs.map f) = (xs.take n).map f := by rw [List.map_take]
attribute [go_sem] cv_int cvInt_some cv_str cvStr_str cvStr_bytes cvBytes_u8 cv_lst cv_href cvLst_some cvOut_some slice_str slStr_some slice_lst slLst_some slice_href slHref_some drop_map take_map
attribute [go_sem] frzE_mk pickK_true pickK_false mkE_nil' mkE_cons' mapE_nil' mapE_cons' delE_nil' delE_cons' onlyE_nil' onlyE_cons' numbered_nil' numbered_cons' agrees_nil' agrees_cons' argsV_nil' argsV_cons' partsV_nil' partsV_cons' elsV_nil' elsV_cons' fstL_nil' fstL_cons' allEls_nil' allEls_cons' comps_nil' comps_cons' compO_none compO_some dstL_cons' opL_cons' frzL_nil' frzL_cons' draws_nil' draws_cons' okL_nil' okL_cons' lo_none lo_int hi_none hi_int optV_none optV_some okA_lit okA_agg okA_tup okA_lst okA_ptr okA_fn okAs_nil' okAs_cons' litOk_int litOk_str toList_lit
attribute [go_sem] List.contains_cons List.contains_nil List.cons_append List.nil_append List.append_nil and_true true_and and_false false_and or_true true_or or_false false_or not_true_eq_false not_false_eq_true eq_self ne_eq Bool.or_false Bool.false_or Bool.or_true Bool.true_or Bool.and_true Bool.true_and Bool.and_false Bool.false_and Bool.not_true Bool.not_false Bool.false_eq_true Bool.true_eq_false if_true if_false ite_true ite_false decide_true decide_false Nat.zero_add Nat.add_zero List.length_nil List.length_cons List.length_map List.length_append List.all_nil List.all_cons List.any_nil List.any_cons forall_const imp_self implies_true true_implies Option.isSome_some Option.isSome_none Option.isNone_some Option.getD_some List.take_length Bool.not_not Decidable.not_not bnot_dec List.drop_zero

end Go.VS

/- VS: more rules. -/
set_option linter.unusedVariables false
set_option linter.unusedSimpArgs false
namespace Go.VS
theorem callS.use {g : Sys} {f : FuncId} {bs : List AVal} {Post : AVal → AVal → Prop} {K : AVal → Prop} (h : VCalls g f bs none Post) (hk : ∀ y x', Post y x' → K y) : callS g f (some bs) K := ⟨bs, Post, rfl, h, hk⟩
theorem tmod_mod {a b : Int} (ha : 0 ≤ a) (hb : 0 < b) : 0 ≤ a.tmod b ∧ a.tmod b < b := by
  rw [Int.tmod_eq_emod_of_nonneg ha]
  exact ⟨Int.emod_nonneg _ (by omega), Int.emod_lt_of_pos _ hb⟩
theorem strOfA_app {l : List UInt8} {b : UInt8} : strOfA (l.map byteA ++ [.lit (.int .u8 (b.toNat : Int))]) = some (l ++ [b]) := by
  have h : l.map byteA ++ [.lit (.int .u8 (b.toNat : Int))] = (l ++ [b]).map byteA := by simp [byteA]
  rw [h, strOfA_map]
attribute [go_sem] strOfA_app
theorem strOfA_rep {n : Nat} : strOfA (List.replicate n (.lit (.int .u8 0))) = some (List.replicate n 0) := by
  have h : List.replicate n (AVal.lit (.int .u8 0)) = (List.replicate n (0 : UInt8)).map byteA := by simp [List.map_replicate, byteA]
  rw [h, strOfA_map]
attribute [go_sem] strOfA_rep
theorem getD_lit {n : Nat} {x d : AVal} {xs : List AVal} : (x :: xs).getD n d = if n = 0 then x else xs.getD (n - 1) d := by
  cases n with
  | zero => simp
  | succ n => simp
attribute [go_sem] getD_lit
theorem size_mk {l : List UInt8} : (ByteArray.mk l.toArray).size = l.length := by simp [ByteArray.size]
end Go.VS

/- The types of the program, as rules. -/
set_option linter.unusedSimpArgs false
open Go.Proofs
set_option maxRecDepth 20000
namespace Go.VS
theorem mixedP : Try.prog.follows .mixedOrders = true := by kernel_rfl
/-- the program at work -/
noncomputable def gz : Sys := { P := Try.prog, mixed := mixedP, ng := 0, Gl := fun _ => True, stay := fun _ _ _ h => h }
theorem tc1 : gz.P.cellsOf 1 = 1 := by kernel_rfl
theorem ta1 : aggT gz.P 1 = some false := by kernel_rfl
theorem te1 : elemT gz.P 1 = none := by kernel_rfl
theorem tz1 : zeroOf gz.P 1 = some (.lit .nilFunc) := by kernel_rfl
theorem tc2 : gz.P.cellsOf 2 = 1 := by kernel_rfl
theorem ta2 : aggT gz.P 2 = some false := by kernel_rfl
theorem tu2 : gz.P.underlying 2 = some (.int .i64) := by kernel_rfl
theorem te2 : elemT gz.P 2 = none := by kernel_rfl
theorem tz2 : zeroOf gz.P 2 = some (.lit (.int .i64 0)) := by kernel_rfl
theorem tc3 : gz.P.cellsOf 3 = 1 := by kernel_rfl
theorem ta3 : aggT gz.P 3 = some false := by kernel_rfl
theorem tu3 : gz.P.underlying 3 = some (.int .i64) := by kernel_rfl
theorem te3 : elemT gz.P 3 = none := by kernel_rfl
theorem tz3 : zeroOf gz.P 3 = some (.lit (.int .i64 0)) := by kernel_rfl
theorem tc4 : gz.P.cellsOf 4 = 1 := by kernel_rfl
theorem ta4 : aggT gz.P 4 = some false := by kernel_rfl
theorem tu4 : gz.P.underlying 4 = some (.bool) := by kernel_rfl
theorem te4 : elemT gz.P 4 = none := by kernel_rfl
theorem tz4 : zeroOf gz.P 4 = some (.lit (.bool false)) := by kernel_rfl
theorem tc5 : gz.P.cellsOf 5 = 1 := by kernel_rfl
theorem ta5 : aggT gz.P 5 = some false := by kernel_rfl
theorem tu5 : gz.P.underlying 5 = some (.int .u8) := by kernel_rfl
theorem te5 : elemT gz.P 5 = none := by kernel_rfl
theorem tz5 : zeroOf gz.P 5 = some (.lit (.int .u8 0)) := by kernel_rfl
theorem tc6 : gz.P.cellsOf 6 = 1 := by kernel_rfl
theorem ta6 : aggT gz.P 6 = some false := by kernel_rfl
theorem tu6 : gz.P.underlying 6 = some (.int .u8) := by kernel_rfl
theorem te6 : elemT gz.P 6 = none := by kernel_rfl
theorem tz6 : zeroOf gz.P 6 = some (.lit (.int .u8 0)) := by kernel_rfl
theorem tc9 : gz.P.cellsOf 9 = 1 := by kernel_rfl
theorem ta9 : aggT gz.P 9 = some false := by kernel_rfl
theorem tu9 : gz.P.underlying 9 = some (.string) := by kernel_rfl
theorem te9 : elemT gz.P 9 = none := by kernel_rfl
theorem tz9 : zeroOf gz.P 9 = some (.lit (.string ByteArray.empty)) := by kernel_rfl
theorem tc10 : gz.P.cellsOf 10 = 1 := by kernel_rfl
theorem ta10 : aggT gz.P 10 = some false := by kernel_rfl
theorem tu10 : gz.P.underlying 10 = some (.string) := by kernel_rfl
theorem te10 : elemT gz.P 10 = none := by kernel_rfl
theorem tz10 : zeroOf gz.P 10 = some (.lit (.string ByteArray.empty)) := by kernel_rfl
theorem tc11 : gz.P.cellsOf 11 = 1 := by kernel_rfl
theorem ta11 : aggT gz.P 11 = some false := by kernel_rfl
theorem tu11 : gz.P.underlying 11 = some (.string) := by kernel_rfl
theorem te11 : elemT gz.P 11 = none := by kernel_rfl
theorem tz11 : zeroOf gz.P 11 = some (.lit (.string ByteArray.empty)) := by kernel_rfl
theorem tc12 : gz.P.cellsOf 12 = 1 := by kernel_rfl
theorem ta12 : aggT gz.P 12 = some false := by kernel_rfl
theorem tu12 : gz.P.underlying 12 = some (.int .u64) := by kernel_rfl
theorem te12 : elemT gz.P 12 = none := by kernel_rfl
theorem tz12 : zeroOf gz.P 12 = some (.lit (.int .u64 0)) := by kernel_rfl
theorem tc15 : gz.P.cellsOf 15 = 1 := by kernel_rfl
theorem ta15 : aggT gz.P 15 = some false := by kernel_rfl
theorem te15 : elemT gz.P 15 = none := by kernel_rfl
theorem tz15 : zeroOf gz.P 15 = some (.lit (.pointer none)) := by kernel_rfl
theorem tc16 : gz.P.cellsOf 16 = 1 := by kernel_rfl
theorem ta16 : aggT gz.P 16 = some false := by kernel_rfl
theorem te16 : elemT gz.P 16 = none := by kernel_rfl
theorem tz16 : zeroOf gz.P 16 = some (.lit (.pointer none)) := by kernel_rfl
theorem tc17 : gz.P.cellsOf 17 = 1 := by kernel_rfl
theorem ta17 : aggT gz.P 17 = some false := by kernel_rfl
theorem te17 : elemT gz.P 17 = none := by kernel_rfl
theorem tz17 : zeroOf gz.P 17 = some (.lit (.pointer none)) := by kernel_rfl
theorem tc20 : gz.P.cellsOf 20 = 1 := by kernel_rfl
theorem ta20 : aggT gz.P 20 = some false := by kernel_rfl
theorem tu20 : gz.P.underlying 20 = some (.interface #[]) := by kernel_rfl
theorem te20 : elemT gz.P 20 = none := by kernel_rfl
theorem tc21 : gz.P.cellsOf 21 = 1 := by kernel_rfl
theorem ta21 : aggT gz.P 21 = some false := by kernel_rfl
theorem tu21 : gz.P.underlying 21 = some (.int .i32) := by kernel_rfl
theorem te21 : elemT gz.P 21 = none := by kernel_rfl
theorem tz21 : zeroOf gz.P 21 = some (.lit (.int .i32 0)) := by kernel_rfl
theorem tc22 : gz.P.cellsOf 22 = 1 := by kernel_rfl
theorem ta22 : aggT gz.P 22 = some false := by kernel_rfl
theorem tu22 : gz.P.underlying 22 = some (.slice 5) := by kernel_rfl
theorem te22 : elemT gz.P 22 = some 5 := by kernel_rfl
theorem tz22 : zeroOf gz.P 22 = some (.lst true 1 []) := by kernel_rfl
theorem tc23 : gz.P.cellsOf 23 = 1 := by kernel_rfl
theorem ta23 : aggT gz.P 23 = some false := by kernel_rfl
theorem te23 : elemT gz.P 23 = none := by kernel_rfl
theorem tz23 : zeroOf gz.P 23 = some (.lit .nilFunc) := by kernel_rfl
theorem tc24 : gz.P.cellsOf 24 = 1 := by kernel_rfl
theorem ta24 : aggT gz.P 24 = some false := by kernel_rfl
theorem tu24 : gz.P.underlying 24 = some (.slice 9) := by kernel_rfl
theorem te24 : elemT gz.P 24 = some 9 := by kernel_rfl
theorem tz24 : zeroOf gz.P 24 = some (.lst true 1 []) := by kernel_rfl
theorem tc25 : gz.P.cellsOf 25 = 1 := by kernel_rfl
theorem ta25 : aggT gz.P 25 = some false := by kernel_rfl
theorem tu25 : gz.P.underlying 25 = some (.slice 43) := by kernel_rfl
theorem te25 : elemT gz.P 25 = some 43 := by kernel_rfl
theorem tz25 : zeroOf gz.P 25 = some (.lst true 2 []) := by kernel_rfl
theorem tc26 : gz.P.cellsOf 26 = 2 := by kernel_rfl
theorem ta26 : aggT gz.P 26 = some true := by kernel_rfl
theorem te26 : elemT gz.P 26 = none := by kernel_rfl
theorem tz26 : zeroOf gz.P 26 = some (.agg [.lst true 1 [], .lst true 2 []]) := by kernel_rfl
theorem tf26_0 : fieldT gz.P 26 0 = some (0, 24) := by kernel_rfl
theorem tf26_1 : fieldT gz.P 26 1 = some (1, 25) := by kernel_rfl
theorem ts26 : structOf gz.P 26 = some [.lst true 1 [], .lst true 2 []] := by kernel_rfl
theorem tc27 : gz.P.cellsOf 27 = 2 := by kernel_rfl
theorem ta27 : aggT gz.P 27 = some true := by kernel_rfl
theorem te27 : elemT gz.P 27 = none := by kernel_rfl
theorem tz27 : zeroOf gz.P 27 = some (.agg [.lst true 1 [], .lst true 2 []]) := by kernel_rfl
theorem tf27_0 : fieldT gz.P 27 0 = some (0, 24) := by kernel_rfl
theorem tf27_1 : fieldT gz.P 27 1 = some (1, 25) := by kernel_rfl
theorem ts27 : structOf gz.P 27 = some [.lst true 1 [], .lst true 2 []] := by kernel_rfl
theorem tc29 : gz.P.cellsOf 29 = 1 := by kernel_rfl
theorem ta29 : aggT gz.P 29 = some false := by kernel_rfl
theorem te29 : elemT gz.P 29 = none := by kernel_rfl
theorem tz29 : zeroOf gz.P 29 = some (.lit .nilFunc) := by kernel_rfl
theorem tc31 : gz.P.cellsOf 31 = 1 := by kernel_rfl
theorem ta31 : aggT gz.P 31 = some false := by kernel_rfl
theorem te31 : elemT gz.P 31 = none := by kernel_rfl
theorem tz31 : zeroOf gz.P 31 = some (.lit .nilFunc) := by kernel_rfl
theorem tc32 : gz.P.cellsOf 32 = 1 := by kernel_rfl
theorem ta32 : aggT gz.P 32 = some false := by kernel_rfl
theorem tu32 : gz.P.underlying 32 = some (.slice 4) := by kernel_rfl
theorem te32 : elemT gz.P 32 = some 4 := by kernel_rfl
theorem tz32 : zeroOf gz.P 32 = some (.lst true 1 []) := by kernel_rfl
theorem tc34 : gz.P.cellsOf 34 = 1 := by kernel_rfl
theorem ta34 : aggT gz.P 34 = some false := by kernel_rfl
theorem te34 : elemT gz.P 34 = none := by kernel_rfl
theorem tz34 : zeroOf gz.P 34 = some (.lit .nilFunc) := by kernel_rfl
theorem tc35 : gz.P.cellsOf 35 = 1 := by kernel_rfl
theorem ta35 : aggT gz.P 35 = some false := by kernel_rfl
theorem te35 : elemT gz.P 35 = none := by kernel_rfl
theorem tz35 : zeroOf gz.P 35 = some (.lit .nilFunc) := by kernel_rfl
theorem tc36 : gz.P.cellsOf 36 = 1 := by kernel_rfl
theorem ta36 : aggT gz.P 36 = some false := by kernel_rfl
theorem te36 : elemT gz.P 36 = none := by kernel_rfl
theorem tz36 : zeroOf gz.P 36 = some (.lit .nilFunc) := by kernel_rfl
theorem tc37 : gz.P.cellsOf 37 = 1 := by kernel_rfl
theorem ta37 : aggT gz.P 37 = some false := by kernel_rfl
theorem te37 : elemT gz.P 37 = none := by kernel_rfl
theorem tz37 : zeroOf gz.P 37 = some (.lit .nilFunc) := by kernel_rfl
theorem tc38 : gz.P.cellsOf 38 = 1 := by kernel_rfl
theorem ta38 : aggT gz.P 38 = some false := by kernel_rfl
theorem te38 : elemT gz.P 38 = none := by kernel_rfl
theorem tz38 : zeroOf gz.P 38 = some (.lit .nilFunc) := by kernel_rfl
theorem tc39 : gz.P.cellsOf 39 = 1 := by kernel_rfl
theorem ta39 : aggT gz.P 39 = some false := by kernel_rfl
theorem te39 : elemT gz.P 39 = none := by kernel_rfl
theorem tz39 : zeroOf gz.P 39 = some (.lit .nilFunc) := by kernel_rfl
theorem tc40 : gz.P.cellsOf 40 = 1 := by kernel_rfl
theorem ta40 : aggT gz.P 40 = some false := by kernel_rfl
theorem te40 : elemT gz.P 40 = none := by kernel_rfl
theorem tz40 : zeroOf gz.P 40 = some (.lit .nilFunc) := by kernel_rfl
theorem tc41 : gz.P.cellsOf 41 = 1 := by kernel_rfl
theorem ta41 : aggT gz.P 41 = some false := by kernel_rfl
theorem te41 : elemT gz.P 41 = none := by kernel_rfl
theorem tz41 : zeroOf gz.P 41 = some (.lit .nilFunc) := by kernel_rfl
theorem tc42 : gz.P.cellsOf 42 = 2 := by kernel_rfl
theorem ta42 : aggT gz.P 42 = some true := by kernel_rfl
theorem te42 : elemT gz.P 42 = none := by kernel_rfl
theorem tz42 : zeroOf gz.P 42 = some (.agg [.lit (.int .i64 0), .lit (.string ByteArray.empty)]) := by kernel_rfl
theorem tf42_0 : fieldT gz.P 42 0 = some (0, 2) := by kernel_rfl
theorem tf42_1 : fieldT gz.P 42 1 = some (1, 9) := by kernel_rfl
theorem ts42 : structOf gz.P 42 = some [.lit (.int .i64 0), .lit (.string ByteArray.empty)] := by kernel_rfl
theorem tp42 : plainStruct gz.P 42 = some [0, 2] := by kernel_rfl
theorem tc43 : gz.P.cellsOf 43 = 2 := by kernel_rfl
theorem ta43 : aggT gz.P 43 = some true := by kernel_rfl
theorem te43 : elemT gz.P 43 = none := by kernel_rfl
theorem tz43 : zeroOf gz.P 43 = some (.agg [.lit (.int .i64 0), .lit (.string ByteArray.empty)]) := by kernel_rfl
theorem tf43_0 : fieldT gz.P 43 0 = some (0, 2) := by kernel_rfl
theorem tf43_1 : fieldT gz.P 43 1 = some (1, 9) := by kernel_rfl
theorem ts43 : structOf gz.P 43 = some [.lit (.int .i64 0), .lit (.string ByteArray.empty)] := by kernel_rfl
theorem tp43 : plainStruct gz.P 43 = some [0, 2] := by kernel_rfl
theorem tc44 : gz.P.cellsOf 44 = 1 := by kernel_rfl
theorem ta44 : aggT gz.P 44 = some false := by kernel_rfl
theorem te44 : elemT gz.P 44 = none := by kernel_rfl
theorem tz44 : zeroOf gz.P 44 = some (.lit (.pointer none)) := by kernel_rfl
theorem tc45 : gz.P.cellsOf 45 = 1 := by kernel_rfl
theorem ta45 : aggT gz.P 45 = some false := by kernel_rfl
theorem te45 : elemT gz.P 45 = none := by kernel_rfl
theorem tz45 : zeroOf gz.P 45 = some (.lit .nilFunc) := by kernel_rfl
theorem tc46 : gz.P.cellsOf 46 = 1 := by kernel_rfl
theorem ta46 : aggT gz.P 46 = some false := by kernel_rfl
theorem te46 : elemT gz.P 46 = none := by kernel_rfl
theorem tz46 : zeroOf gz.P 46 = some (.lit .nilFunc) := by kernel_rfl
theorem tc47 : gz.P.cellsOf 47 = 1 := by kernel_rfl
theorem ta47 : aggT gz.P 47 = some false := by kernel_rfl
theorem te47 : elemT gz.P 47 = none := by kernel_rfl
theorem tz47 : zeroOf gz.P 47 = some (.lit .nilFunc) := by kernel_rfl
theorem tc48 : gz.P.cellsOf 48 = 1 := by kernel_rfl
theorem ta48 : aggT gz.P 48 = some false := by kernel_rfl
theorem te48 : elemT gz.P 48 = none := by kernel_rfl
theorem tz48 : zeroOf gz.P 48 = some (.lit .nilFunc) := by kernel_rfl
theorem tc49 : gz.P.cellsOf 49 = 1 := by kernel_rfl
theorem ta49 : aggT gz.P 49 = some false := by kernel_rfl
theorem te49 : elemT gz.P 49 = none := by kernel_rfl
theorem tz49 : zeroOf gz.P 49 = some (.lit .nilFunc) := by kernel_rfl
theorem tc50 : gz.P.cellsOf 50 = 1 := by kernel_rfl
theorem ta50 : aggT gz.P 50 = some false := by kernel_rfl
theorem tu50 : gz.P.underlying 50 = some (.slice 2) := by kernel_rfl
theorem te50 : elemT gz.P 50 = some 2 := by kernel_rfl
theorem tz50 : zeroOf gz.P 50 = some (.lst true 1 []) := by kernel_rfl
theorem tc51 : gz.P.cellsOf 51 = 1 := by kernel_rfl
theorem ta51 : aggT gz.P 51 = some false := by kernel_rfl
theorem te51 : elemT gz.P 51 = none := by kernel_rfl
theorem tz51 : zeroOf gz.P 51 = some (.lit .nilFunc) := by kernel_rfl
theorem tc52 : gz.P.cellsOf 52 = 1 := by kernel_rfl
theorem ta52 : aggT gz.P 52 = some false := by kernel_rfl
theorem te52 : elemT gz.P 52 = none := by kernel_rfl
theorem tz52 : zeroOf gz.P 52 = some (.lit .nilFunc) := by kernel_rfl
theorem tc53 : gz.P.cellsOf 53 = 1 := by kernel_rfl
theorem ta53 : aggT gz.P 53 = some false := by kernel_rfl
theorem te53 : elemT gz.P 53 = none := by kernel_rfl
theorem tz53 : zeroOf gz.P 53 = some (.lit .nilFunc) := by kernel_rfl
theorem tc54 : gz.P.cellsOf 54 = 1 := by kernel_rfl
theorem ta54 : aggT gz.P 54 = some false := by kernel_rfl
theorem te54 : elemT gz.P 54 = none := by kernel_rfl
theorem tz54 : zeroOf gz.P 54 = some (.lit .nilFunc) := by kernel_rfl
theorem tc55 : gz.P.cellsOf 55 = 1 := by kernel_rfl
theorem ta55 : aggT gz.P 55 = some false := by kernel_rfl
theorem te55 : elemT gz.P 55 = none := by kernel_rfl
theorem tz55 : zeroOf gz.P 55 = some (.lit .nilFunc) := by kernel_rfl
theorem tc56 : gz.P.cellsOf 56 = 1 := by kernel_rfl
theorem ta56 : aggT gz.P 56 = some false := by kernel_rfl
theorem te56 : elemT gz.P 56 = none := by kernel_rfl
theorem tz56 : zeroOf gz.P 56 = some (.lit .nilFunc) := by kernel_rfl
theorem tc57 : gz.P.cellsOf 57 = 1 := by kernel_rfl
theorem ta57 : aggT gz.P 57 = some false := by kernel_rfl
theorem te57 : elemT gz.P 57 = none := by kernel_rfl
theorem tz57 : zeroOf gz.P 57 = some (.lit .nilFunc) := by kernel_rfl
theorem tc58 : gz.P.cellsOf 58 = 1 := by kernel_rfl
theorem ta58 : aggT gz.P 58 = some false := by kernel_rfl
theorem te58 : elemT gz.P 58 = none := by kernel_rfl
theorem tz58 : zeroOf gz.P 58 = some (.lit .nilFunc) := by kernel_rfl
theorem tc59 : gz.P.cellsOf 59 = 1 := by kernel_rfl
theorem ta59 : aggT gz.P 59 = some false := by kernel_rfl
theorem te59 : elemT gz.P 59 = none := by kernel_rfl
theorem tz59 : zeroOf gz.P 59 = some (.lit .nilFunc) := by kernel_rfl
theorem tc60 : gz.P.cellsOf 60 = 1 := by kernel_rfl
theorem ta60 : aggT gz.P 60 = some false := by kernel_rfl
theorem te60 : elemT gz.P 60 = none := by kernel_rfl
theorem tz60 : zeroOf gz.P 60 = some (.lit .nilFunc) := by kernel_rfl
theorem tc61 : gz.P.cellsOf 61 = 1 := by kernel_rfl
theorem ta61 : aggT gz.P 61 = some false := by kernel_rfl
theorem te61 : elemT gz.P 61 = none := by kernel_rfl
theorem tz61 : zeroOf gz.P 61 = some (.lit .nilFunc) := by kernel_rfl
theorem tc62 : gz.P.cellsOf 62 = 1 := by kernel_rfl
theorem ta62 : aggT gz.P 62 = some false := by kernel_rfl
theorem te62 : elemT gz.P 62 = none := by kernel_rfl
theorem tz62 : zeroOf gz.P 62 = some (.lit .nilFunc) := by kernel_rfl
theorem tc63 : gz.P.cellsOf 63 = 3 := by kernel_rfl
theorem ta63 : aggT gz.P 63 = some true := by kernel_rfl
theorem te63 : elemT gz.P 63 = none := by kernel_rfl
theorem tz63 : zeroOf gz.P 63 = some (.agg [.lst true 1 [], .lit (.int .i64 0), .lit (.int .i64 0)]) := by kernel_rfl
theorem tf63_0 : fieldT gz.P 63 0 = some (0, 22) := by kernel_rfl
theorem tf63_1 : fieldT gz.P 63 1 = some (1, 3) := by kernel_rfl
theorem tf63_2 : fieldT gz.P 63 2 = some (2, 2) := by kernel_rfl
theorem ts63 : structOf gz.P 63 = some [.lst true 1 [], .lit (.int .i64 0), .lit (.int .i64 0)] := by kernel_rfl
theorem tc64 : gz.P.cellsOf 64 = 3 := by kernel_rfl
theorem ta64 : aggT gz.P 64 = some true := by kernel_rfl
theorem te64 : elemT gz.P 64 = none := by kernel_rfl
theorem tz64 : zeroOf gz.P 64 = some (.agg [.lst true 1 [], .lit (.int .i64 0), .lit (.int .i64 0)]) := by kernel_rfl
theorem tf64_0 : fieldT gz.P 64 0 = some (0, 22) := by kernel_rfl
theorem tf64_1 : fieldT gz.P 64 1 = some (1, 3) := by kernel_rfl
theorem tf64_2 : fieldT gz.P 64 2 = some (2, 2) := by kernel_rfl
theorem ts64 : structOf gz.P 64 = some [.lst true 1 [], .lit (.int .i64 0), .lit (.int .i64 0)] := by kernel_rfl
theorem tc65 : gz.P.cellsOf 65 = 1 := by kernel_rfl
theorem ta65 : aggT gz.P 65 = some false := by kernel_rfl
theorem te65 : elemT gz.P 65 = none := by kernel_rfl
theorem tz65 : zeroOf gz.P 65 = some (.lit .nilFunc) := by kernel_rfl
theorem tc66 : gz.P.cellsOf 66 = 1 := by kernel_rfl
theorem ta66 : aggT gz.P 66 = some false := by kernel_rfl
theorem te66 : elemT gz.P 66 = none := by kernel_rfl
theorem tz66 : zeroOf gz.P 66 = some (.lit .nilFunc) := by kernel_rfl
theorem tc67 : gz.P.cellsOf 67 = 1 := by kernel_rfl
theorem ta67 : aggT gz.P 67 = some false := by kernel_rfl
theorem te67 : elemT gz.P 67 = none := by kernel_rfl
theorem tz67 : zeroOf gz.P 67 = some (.lit .nilFunc) := by kernel_rfl
theorem tc68 : gz.P.cellsOf 68 = 1 := by kernel_rfl
theorem ta68 : aggT gz.P 68 = some false := by kernel_rfl
theorem te68 : elemT gz.P 68 = none := by kernel_rfl
theorem tz68 : zeroOf gz.P 68 = some (.lit .nilFunc) := by kernel_rfl
theorem tc69 : gz.P.cellsOf 69 = 1 := by kernel_rfl
theorem ta69 : aggT gz.P 69 = some false := by kernel_rfl
theorem te69 : elemT gz.P 69 = none := by kernel_rfl
theorem tz69 : zeroOf gz.P 69 = some (.lit .nilFunc) := by kernel_rfl
theorem tc70 : gz.P.cellsOf 70 = 1 := by kernel_rfl
theorem ta70 : aggT gz.P 70 = some false := by kernel_rfl
theorem te70 : elemT gz.P 70 = none := by kernel_rfl
theorem tz70 : zeroOf gz.P 70 = some (.lit .nilFunc) := by kernel_rfl
theorem tc71 : gz.P.cellsOf 71 = 1 := by kernel_rfl
theorem ta71 : aggT gz.P 71 = some false := by kernel_rfl
theorem te71 : elemT gz.P 71 = none := by kernel_rfl
theorem tz71 : zeroOf gz.P 71 = some (.lit .nilFunc) := by kernel_rfl
theorem tc72 : gz.P.cellsOf 72 = 1 := by kernel_rfl
theorem ta72 : aggT gz.P 72 = some false := by kernel_rfl
theorem te72 : elemT gz.P 72 = none := by kernel_rfl
theorem tz72 : zeroOf gz.P 72 = some (.lit .nilFunc) := by kernel_rfl
theorem tc73 : gz.P.cellsOf 73 = 1 := by kernel_rfl
theorem ta73 : aggT gz.P 73 = some false := by kernel_rfl
theorem te73 : elemT gz.P 73 = none := by kernel_rfl
theorem tz73 : zeroOf gz.P 73 = some (.lit .nilFunc) := by kernel_rfl
theorem tc74 : gz.P.cellsOf 74 = 1 := by kernel_rfl
theorem ta74 : aggT gz.P 74 = some false := by kernel_rfl
theorem tu74 : gz.P.underlying 74 = some (.int .u64) := by kernel_rfl
theorem te74 : elemT gz.P 74 = none := by kernel_rfl
theorem tz74 : zeroOf gz.P 74 = some (.lit (.int .u64 0)) := by kernel_rfl
theorem tc75 : gz.P.cellsOf 75 = 1 := by kernel_rfl
theorem ta75 : aggT gz.P 75 = some false := by kernel_rfl
theorem te75 : elemT gz.P 75 = none := by kernel_rfl
theorem tz75 : zeroOf gz.P 75 = some (.lit .nilFunc) := by kernel_rfl
theorem tc76 : gz.P.cellsOf 76 = 1 := by kernel_rfl
theorem ta76 : aggT gz.P 76 = some false := by kernel_rfl
theorem te76 : elemT gz.P 76 = none := by kernel_rfl
theorem tz76 : zeroOf gz.P 76 = some (.lit .nilFunc) := by kernel_rfl
theorem tc82 : gz.P.cellsOf 82 = 1 := by kernel_rfl
theorem ta82 : aggT gz.P 82 = some false := by kernel_rfl
theorem te82 : elemT gz.P 82 = none := by kernel_rfl
theorem tz82 : zeroOf gz.P 82 = some (.lit .nilFunc) := by kernel_rfl
theorem tc83 : gz.P.cellsOf 83 = 1 := by kernel_rfl
theorem ta83 : aggT gz.P 83 = some false := by kernel_rfl
theorem tu83 : gz.P.underlying 83 = some (.int .u32) := by kernel_rfl
theorem te83 : elemT gz.P 83 = none := by kernel_rfl
theorem tz83 : zeroOf gz.P 83 = some (.lit (.int .u32 0)) := by kernel_rfl
theorem tc84 : gz.P.cellsOf 84 = 1 := by kernel_rfl
theorem ta84 : aggT gz.P 84 = some false := by kernel_rfl
theorem tu84 : gz.P.underlying 84 = some (.int .u8) := by kernel_rfl
theorem te84 : elemT gz.P 84 = none := by kernel_rfl
theorem tz84 : zeroOf gz.P 84 = some (.lit (.int .u8 0)) := by kernel_rfl
theorem tc85 : gz.P.cellsOf 85 = 1 := by kernel_rfl
theorem ta85 : aggT gz.P 85 = some false := by kernel_rfl
theorem tu85 : gz.P.underlying 85 = some (.int .u8) := by kernel_rfl
theorem te85 : elemT gz.P 85 = none := by kernel_rfl
theorem tz85 : zeroOf gz.P 85 = some (.lit (.int .u8 0)) := by kernel_rfl
theorem tc86 : gz.P.cellsOf 86 = 1 := by kernel_rfl
theorem ta86 : aggT gz.P 86 = some false := by kernel_rfl
theorem te86 : elemT gz.P 86 = none := by kernel_rfl
theorem tz86 : zeroOf gz.P 86 = some (.lit .nilFunc) := by kernel_rfl
theorem tc87 : gz.P.cellsOf 87 = 1 := by kernel_rfl
theorem ta87 : aggT gz.P 87 = some false := by kernel_rfl
theorem te87 : elemT gz.P 87 = none := by kernel_rfl
theorem tz87 : zeroOf gz.P 87 = some (.lit (.pointer none)) := by kernel_rfl
theorem tc88 : gz.P.cellsOf 88 = 1 := by kernel_rfl
theorem ta88 : aggT gz.P 88 = some false := by kernel_rfl
theorem tu88 : gz.P.underlying 88 = some (.int .i32) := by kernel_rfl
theorem te88 : elemT gz.P 88 = none := by kernel_rfl
theorem tz88 : zeroOf gz.P 88 = some (.lit (.int .i32 0)) := by kernel_rfl
theorem tc89 : gz.P.cellsOf 89 = 1 := by kernel_rfl
theorem ta89 : aggT gz.P 89 = some false := by kernel_rfl
theorem tu89 : gz.P.underlying 89 = some (.int .i32) := by kernel_rfl
theorem te89 : elemT gz.P 89 = none := by kernel_rfl
theorem tz89 : zeroOf gz.P 89 = some (.lit (.int .i32 0)) := by kernel_rfl
theorem tc90 : gz.P.cellsOf 90 = 11 := by kernel_rfl
theorem ta90 : aggT gz.P 90 = some true := by kernel_rfl
theorem te90 : elemT gz.P 90 = none := by kernel_rfl
theorem tz90 : zeroOf gz.P 90 = some (.agg [.lit (.int .u64 0), .lit (.int .u64 0), .lit (.int .u32 0), .lit (.int .u8 0), .lit (.int .u8 0), .lit (.int .u8 0), .lit (.int .u8 0), .lit .nilFunc, .lit (.pointer none), .lit (.int .i32 0), .lit (.int .i32 0)]) := by kernel_rfl
theorem tf90_0 : fieldT gz.P 90 0 = some (0, 12) := by kernel_rfl
theorem tf90_1 : fieldT gz.P 90 1 = some (1, 12) := by kernel_rfl
theorem tf90_2 : fieldT gz.P 90 2 = some (2, 83) := by kernel_rfl
theorem tf90_3 : fieldT gz.P 90 3 = some (3, 84) := by kernel_rfl
theorem tf90_4 : fieldT gz.P 90 4 = some (4, 5) := by kernel_rfl
theorem tf90_5 : fieldT gz.P 90 5 = some (5, 5) := by kernel_rfl
theorem tf90_6 : fieldT gz.P 90 6 = some (6, 85) := by kernel_rfl
theorem tf90_7 : fieldT gz.P 90 7 = some (7, 86) := by kernel_rfl
theorem tf90_8 : fieldT gz.P 90 8 = some (8, 87) := by kernel_rfl
theorem tf90_9 : fieldT gz.P 90 9 = some (9, 88) := by kernel_rfl
theorem tf90_10 : fieldT gz.P 90 10 = some (10, 89) := by kernel_rfl
theorem ts90 : structOf gz.P 90 = some [.lit (.int .u64 0), .lit (.int .u64 0), .lit (.int .u32 0), .lit (.int .u8 0), .lit (.int .u8 0), .lit (.int .u8 0), .lit (.int .u8 0), .lit .nilFunc, .lit (.pointer none), .lit (.int .i32 0), .lit (.int .i32 0)] := by kernel_rfl
theorem tn2 {n : Nat} : fits gz.P 2 n = (n * 8 ≤ 140737488355328 ∧ n ≤ maxLen) := by
  have h : gz.P.bytesOf 2 = 8 := by kernel_rfl
  simp only [fits, h]
theorem tn4 {n : Nat} : fits gz.P 4 n = (n * 1 ≤ 140737488355328 ∧ n ≤ maxLen) := by
  have h : gz.P.bytesOf 4 = 1 := by kernel_rfl
  simp only [fits, h]
theorem tn5 {n : Nat} : fits gz.P 5 n = (n * 1 ≤ 140737488355328 ∧ n ≤ maxLen) := by
  have h : gz.P.bytesOf 5 = 1 := by kernel_rfl
  simp only [fits, h]
theorem tn9 {n : Nat} : fits gz.P 9 n = (n * 16 ≤ 140737488355328 ∧ n ≤ maxLen) := by
  have h : gz.P.bytesOf 9 = 16 := by kernel_rfl
  simp only [fits, h]
theorem tn43 {n : Nat} : fits gz.P 43 n = (n * 24 ≤ 140737488355328 ∧ n ≤ maxLen) := by
  have h : gz.P.bytesOf 43 = 24 := by kernel_rfl
  simp only [fits, h]
attribute [go_sem] tc1 ta1 te1 tz1 tc2 ta2 tu2 te2 tz2 tc3 ta3 tu3 te3 tz3 tc4 ta4 tu4 te4 tz4 tc5 ta5 tu5 te5 tz5 tc6 ta6 tu6 te6 tz6 tc9 ta9 tu9 te9 tz9 tc10 ta10 tu10 te10 tz10 tc11 ta11 tu11 te11 tz11 tc12 ta12 tu12 te12 tz12 tc15 ta15 te15 tz15 tc16 ta16 te16 tz16 tc17 ta17 te17 tz17 tc20 ta20 tu20 te20 tc21 ta21 tu21 te21 tz21 tc22 ta22 tu22 te22 tz22 tc23 ta23 te23 tz23 tc24 ta24 tu24 te24 tz24 tc25 ta25 tu25 te25 tz25 tc26 ta26 te26 tz26 tf26_0 tf26_1 ts26 tc27 ta27 te27 tz27 tf27_0 tf27_1 ts27 tc29 ta29 te29 tz29 tc31 ta31 te31 tz31 tc32 ta32 tu32 te32 tz32 tc34 ta34 te34 tz34 tc35 ta35 te35 tz35 tc36 ta36 te36 tz36 tc37 ta37 te37 tz37 tc38 ta38 te38 tz38 tc39 ta39 te39 tz39 tc40 ta40 te40 tz40 tc41 ta41 te41 tz41 tc42 ta42 te42 tz42 tf42_0 tf42_1 ts42 tp42 tc43 ta43 te43 tz43 tf43_0 tf43_1 ts43 tp43 tc44 ta44 te44 tz44 tc45 ta45 te45 tz45 tc46 ta46 te46 tz46 tc47 ta47 te47 tz47 tc48 ta48 te48 tz48 tc49 ta49 te49 tz49 tc50 ta50 tu50 te50 tz50 tc51 ta51 te51 tz51 tc52 ta52 te52 tz52 tc53 ta53 te53 tz53 tc54 ta54 te54 tz54 tc55 ta55 te55 tz55 tc56 ta56 te56 tz56 tc57 ta57 te57 tz57 tc58 ta58 te58 tz58 tc59 ta59 te59 tz59 tc60 ta60 te60 tz60 tc61 ta61 te61 tz61 tc62 ta62 te62 tz62 tc63 ta63 te63 tz63 tf63_0 tf63_1 tf63_2 ts63 tc64 ta64 te64 tz64 tf64_0 tf64_1 tf64_2 ts64 tc65 ta65 te65 tz65 tc66 ta66 te66 tz66 tc67 ta67 te67 tz67 tc68 ta68 te68 tz68 tc69 ta69 te69 tz69 tc70 ta70 te70 tz70 tc71 ta71 te71 tz71 tc72 ta72 te72 tz72 tc73 ta73 te73 tz73 tc74 ta74 tu74 te74 tz74 tc75 ta75 te75 tz75 tc76 ta76 te76 tz76 tc82 ta82 te82 tz82 tc83 ta83 tu83 te83 tz83 tc84 ta84 tu84 te84 tz84 tc85 ta85 tu85 te85 tz85 tc86 ta86 te86 tz86 tc87 ta87 te87 tz87 tc88 ta88 tu88 te88 tz88 tc89 ta89 tu89 te89 tz89 tc90 ta90 te90 tz90 tf90_0 tf90_1 tf90_2 tf90_3 tf90_4 tf90_5 tf90_6 tf90_7 tf90_8 tf90_9 tf90_10 ts90 tn2 tn4 tn5 tn9 tn43
end Go.VS
