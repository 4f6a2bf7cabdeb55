/- VS: rules for values, and the set of all rules. -/
import Derived.Test.YtejhoajebbigbaaGreatDoorVm
import Derived.Attr
import Derived.Below
import Derived.Sort.Grow
import Derived.Deep.Draws
import Derived.Test.YtejhoajebbigbaaGreatDoorVe
set_option linter.unusedVariables false
set_option linter.unusedSimpArgs false
namespace Go.VS
section
variable {v : Value} {xs : List AVal} {x : AVal} {own : Bool} {sz : Nat} {l : Loc} {lo n i off : Nat} {fs : List Nat} {es : List (Value × Value)} {f : Nat} {d : Loc -> Bool} {mvr : Nat -> Bool} {bad : Loc -> Bool} {e : Env}
theorem kill_lit : killP d (.lit v) = (.lit v) := by simp only [killP]
theorem kill_ifc : killP d .ifc = .ifc := by simp only [killP]
theorem kill_undef : killP d .undef = .undef := by simp only [killP]
theorem kill_lst : killP d (.lst own sz xs) = (.lst own sz xs) := by simp only [killP]
theorem kill_ptrS : killP d (.ptr false x) = (.ptr false x) := by simp only [killP]
theorem kill_mpO : killP d (.mp true es) = (.mp true es) := by simp only [killP]
theorem kill_mpS : killP d (.mp false es) = (.mp false es) := by simp only [killP]
theorem kill_agg : killP d (.agg xs) = .agg (killPs d xs) := by simp only [killP]
theorem kill_tup : killP d (.tup xs) = .tup (killPs d xs) := by simp only [killP]
theorem kill_fn : killP d (.fn f xs) = .fn f (killPs d xs) := by simp only [killP]
theorem kill_ptrO : killP d (.ptr true x) = .ptr true (killP d x) := by simp only [killP]
theorem kill_href : killP d (.href l sz lo n) = if d l = true then .undef else (.href l sz lo n) := by simp only [killP]
theorem kill_adr : killP d (.adr l i fs off) = if d l = true then .undef else (.adr l i fs off) := by simp only [killP]
theorem kill_mref : killP d (.mref l) = if d l = true then .undef else (.mref l) := by simp only [killP]
theorem kills_nil : killPs d [] = [] := by simp only [killPs]
theorem kills_cons : killPs d (x :: xs) = killP d x :: killPs d xs := by simp only [killPs]
theorem copy_lit : copyOut l (.lit v) = (.lit v) := by simp only [copyOut]
theorem copy_ifc : copyOut l .ifc = .ifc := by simp only [copyOut]
theorem copy_undef : copyOut l .undef = .undef := by simp only [copyOut]
theorem copy_lstS : copyOut l (.lst false sz xs) = (.lst false sz xs) := by simp only [copyOut]
theorem copy_ptrS : copyOut l (.ptr false x) = (.ptr false x) := by simp only [copyOut]
theorem copy_mpS : copyOut l (.mp false es) = (.mp false es) := by simp only [copyOut]
theorem copy_href {m : Loc} : copyOut l (.href m sz lo n) = (.href m sz lo n) := by simp only [copyOut]
theorem copy_adr {m : Loc} : copyOut l (.adr m i fs off) = (.adr m i fs off) := by simp only [copyOut]
theorem copy_mref {m : Loc} : copyOut l (.mref m) = (.mref m) := by simp only [copyOut]
theorem copy_agg : copyOut l (.agg xs) = .agg (copyOuts l 0 xs) := by simp only [copyOut]
theorem copy_tup : copyOut l (.tup xs) = .tup (copyOuts l 0 xs) := by simp only [copyOut]
theorem copy_fn : copyOut l (.fn f xs) = .fn f (copyOuts l 0 xs) := by simp only [copyOut]
theorem copy_lstO : copyOut l (.lst true sz xs) = .href l sz 0 xs.length := by simp only [copyOut]
theorem copy_ptrO : copyOut l (.ptr true x) = .adr l 0 [] 0 := by simp only [copyOut]
theorem copy_mpO : copyOut l (.mp true es) = .mref l := by simp only [copyOut]
theorem copys_nil : copyOuts l i [] = [] := by simp only [copyOuts]
theorem copys_cons : copyOuts l i (x :: xs) = copyOut (l.fld i) x :: copyOuts l (i + 1) xs := by simp only [copyOuts]
theorem noRef_lit : noRef (.lit v) = true := by simp only [noRef]
theorem noRef_ifc : noRef .ifc = true := by simp only [noRef]
theorem noRef_undef : noRef .undef = true := by simp only [noRef]
theorem noRef_agg : noRef (.agg xs) = noRefs xs := by simp only [noRef]
theorem noRef_tup : noRef (.tup xs) = noRefs xs := by simp only [noRef]
theorem noRef_lst : noRef (.lst own sz xs) = noRefs xs := by simp only [noRef]
theorem noRef_ptrO : noRef (.ptr true x) = noRef x := by simp only [noRef]
theorem noRef_ptrS : noRef (.ptr false x) = noRef x := by simp only [noRef]
theorem noRef_fn : noRef (.fn f xs) = noRefs xs := by simp only [noRef]
theorem noRef_mpO : noRef (.mp true es) = true := by simp only [noRef]
theorem noRef_mpS : noRef (.mp false es) = true := by simp only [noRef]
theorem noRef_href : noRef (.href l sz lo n) = false := by simp only [noRef]
theorem noRef_adr : noRef (.adr l i fs off) = false := by simp only [noRef]
theorem noRef_mref : noRef (.mref l) = false := by simp only [noRef]
theorem noRefs_nil : noRefs [] = true := by simp only [noRefs]
theorem noRefs_cons : noRefs (x :: xs) = (noRef x && noRefs xs) := by simp only [noRefs]
theorem closed_lit : closedA (.lit v) = true := by simp [closedA]
theorem closed_ifc : closedA .ifc = true := by simp [closedA]
theorem closed_undef : closedA .undef = true := by simp [closedA]
theorem closed_agg : closedA (.agg xs) = closedAs xs := by simp [closedA]
theorem closed_tup : closedA (.tup xs) = closedAs xs := by simp [closedA]
theorem closed_lst : closedA (.lst own sz xs) = (own && closedAs xs) := by simp [closedA]
theorem closed_ptrO : closedA (.ptr true x) = closedA x := by simp [closedA]
theorem closed_ptrS : closedA (.ptr false x) = false := by simp [closedA]
theorem closed_fn : closedA (.fn f xs) = closedAs xs := by simp [closedA]
theorem closed_mpO : closedA (.mp true es) = true := by simp [closedA]
theorem closed_mpS : closedA (.mp false es) = false := by simp [closedA]
theorem closeds_nil : closedAs [] = true := by simp only [closedAs]
theorem closeds_cons : closedAs (x :: xs) = (closedA x && closedAs xs) := by simp only [closedAs]
theorem flat_lit : flatA (.lit v) = true := by simp only [flatA]
theorem flat_ifc : flatA .ifc = true := by simp only [flatA]
theorem flat_undef : flatA .undef = true := by simp only [flatA]
theorem flat_agg : flatA (.agg xs) = flatAs xs := by simp only [flatA]
theorem flat_tup : flatA (.tup xs) = false := by simp only [flatA]
theorem flat_lstO : flatA (.lst true sz xs) = false := by simp only [flatA]
theorem flat_lstS : flatA (.lst false sz xs) = true := by simp only [flatA]
theorem flat_ptrO : flatA (.ptr true x) = false := by simp only [flatA]
theorem flat_ptrS : flatA (.ptr false x) = true := by simp only [flatA]
theorem flat_fn : flatA (.fn f xs) = flatAs xs := by simp only [flatA]
theorem flat_mpO : flatA (.mp true es) = false := by simp only [flatA]
theorem flat_mpS : flatA (.mp false es) = true := by simp only [flatA]
theorem flat_href : flatA (.href l sz lo n) = false := by simp only [flatA]
theorem flat_adr : flatA (.adr l i fs off) = false := by simp only [flatA]
theorem flat_mref : flatA (.mref l) = false := by simp only [flatA]
theorem flats_nil : flatAs [] = true := by simp only [flatAs]
theorem flats_cons : flatAs (x :: xs) = (flatA x && flatAs xs) := by simp only [flatAs]
theorem rok_lit : refsOk mvr (.lit v) = (true) := by simp only [refsOk]
theorem rok_ifc : refsOk mvr .ifc = (true) := by simp only [refsOk]
theorem rok_undef : refsOk mvr .undef = (true) := by simp only [refsOk]
theorem rok_agg : refsOk mvr (.agg xs) = (refsOks mvr xs) := by simp only [refsOk]
theorem rok_tup : refsOk mvr (.tup xs) = (refsOks mvr xs) := by simp only [refsOk]
theorem rok_lst : refsOk mvr (.lst own sz xs) = (true) := by simp only [refsOk]
theorem rok_ptrO : refsOk mvr (.ptr true x) = (refsOk mvr x) := by simp only [refsOk]
theorem rok_ptrS : refsOk mvr (.ptr false x) = (true) := by simp only [refsOk]
theorem rok_fn : refsOk mvr (.fn f xs) = (refsOks mvr xs) := by simp only [refsOk]
theorem rok_mpO : refsOk mvr (.mp true es) = (true) := by simp only [refsOk]
theorem rok_mpS : refsOk mvr (.mp false es) = (true) := by simp only [refsOk]
theorem rok_href : refsOk mvr (.href l sz lo n) = (!mvr l.r) := by simp only [refsOk]
theorem rok_adr : refsOk mvr (.adr l i fs off) = (!mvr l.r) := by simp only [refsOk]
theorem rok_mref : refsOk mvr (.mref l) = (!mvr l.r) := by simp only [refsOk]
theorem roks_nil : refsOks mvr [] = true := by simp only [refsOks]
theorem roks_cons : refsOks mvr (x :: xs) = (refsOk mvr x && refsOks mvr xs) := by simp only [refsOks]
theorem blank_lit : blank (.lit v) = (.lit v) := by simp only [blank]
theorem blank_ifc : blank .ifc = .ifc := by simp only [blank]
theorem blank_undef : blank .undef = .undef := by simp only [blank]
theorem blank_lstS : blank (.lst false sz xs) = (.lst false sz xs) := by simp only [blank]
theorem blank_ptrS : blank (.ptr false x) = (.ptr false x) := by simp only [blank]
theorem blank_mpS : blank (.mp false es) = (.mp false es) := by simp only [blank]
theorem blank_href : blank (.href l sz lo n) = (.href l sz lo n) := by simp only [blank]
theorem blank_adr : blank (.adr l i fs off) = (.adr l i fs off) := by simp only [blank]
theorem blank_mref : blank (.mref l) = (.mref l) := by simp only [blank]
theorem blank_lstO : blank (.lst true sz xs) = .undef := by simp only [blank]
theorem blank_ptrO : blank (.ptr true x) = .undef := by simp only [blank]
theorem blank_mpO : blank (.mp true es) = .undef := by simp only [blank]
theorem blank_agg : blank (.agg xs) = .agg (blanks xs) := by simp only [blank]
theorem blank_fn : blank (.fn f xs) = .fn f (blanks xs) := by simp only [blank]
theorem blanks_nil : blanks [] = [] := by simp only [blanks]
theorem blanks_cons : blanks (x :: xs) = blank x :: blanks xs := by simp only [blanks]
theorem shd_lit : toShd (.lit v) = (.lit v) := by simp only [toShd]
theorem shd_ifc : toShd .ifc = .ifc := by simp only [toShd]
theorem shd_undef : toShd .undef = .undef := by simp only [toShd]
theorem shd_href : toShd (.href l sz lo n) = (.href l sz lo n) := by simp only [toShd]
theorem shd_adr : toShd (.adr l i fs off) = (.adr l i fs off) := by simp only [toShd]
theorem shd_mref : toShd (.mref l) = (.mref l) := by simp only [toShd]
theorem shd_agg : toShd (.agg xs) = .agg (toShds xs) := by simp only [toShd]
theorem shd_tup : toShd (.tup xs) = .tup (toShds xs) := by simp only [toShd]
theorem shd_fn : toShd (.fn f xs) = .fn f (toShds xs) := by simp only [toShd]
theorem shd_lst : toShd (.lst own sz xs) = .lst false sz (toShds xs) := by simp only [toShd]
theorem shd_ptrO : toShd (.ptr own x) = .ptr false (toShd x) := by simp only [toShd]
theorem shd_mp : toShd (.mp own es) = .mp false es := by simp only [toShd]
theorem shds_nil : toShds [] = [] := by simp only [toShds]
theorem shds_cons : toShds (x :: xs) = toShd x :: toShds xs := by simp only [toShds]
theorem stOk_lit : stOk (.lit v) = true := nr rfl
theorem isUndef_lit : isUndef (.lit v) = false := nr rfl
theorem isAgg_lit : isAggA (.lit v) = false := nr rfl
theorem capOk_lit : capOk (.lit v) = true := nr rfl
theorem isNilList_lit : setParts.isNilList (.lit v) = false := nr rfl
theorem stOk_ifc : stOk .ifc = true := nr rfl
theorem isUndef_ifc : isUndef .ifc = false := nr rfl
theorem isAgg_ifc : isAggA .ifc = false := nr rfl
theorem capOk_ifc : capOk .ifc = true := nr rfl
theorem isNilV_ifc : isNilV .ifc = false := nr rfl
theorem isNilList_ifc : setParts.isNilList .ifc = false := nr rfl
theorem stOk_undef : stOk .undef = false := nr rfl
theorem isUndef_undef : isUndef .undef = true := nr rfl
theorem isAgg_undef : isAggA .undef = false := nr rfl
theorem capOk_undef : capOk .undef = false := nr rfl
theorem isNilV_undef : isNilV .undef = false := nr rfl
theorem isNilList_undef : setParts.isNilList .undef = false := nr rfl
theorem stOk_agg : stOk (.agg xs) = true := nr rfl
theorem isUndef_agg : isUndef (.agg xs) = false := nr rfl
theorem isAgg_agg : isAggA (.agg xs) = true := nr rfl
theorem capOk_agg : capOk (.agg xs) = false := nr rfl
theorem isNilV_agg : isNilV (.agg xs) = false := nr rfl
theorem isNilList_agg : setParts.isNilList (.agg xs) = false := nr rfl
theorem stOk_tup : stOk (.tup xs) = false := nr rfl
theorem isUndef_tup : isUndef (.tup xs) = false := nr rfl
theorem isAgg_tup : isAggA (.tup xs) = false := nr rfl
theorem capOk_tup : capOk (.tup xs) = false := nr rfl
theorem isNilV_tup : isNilV (.tup xs) = false := nr rfl
theorem isNilList_tup : setParts.isNilList (.tup xs) = false := nr rfl
theorem stOk_lst : stOk (.lst own sz xs) = true := nr rfl
theorem isUndef_lst : isUndef (.lst own sz xs) = false := nr rfl
theorem isAgg_lst : isAggA (.lst own sz xs) = false := nr rfl
theorem capOk_lst : capOk (.lst own sz xs) = true := nr rfl
theorem isNilV_lst : isNilV (.lst own sz xs) = false := nr rfl
theorem stOk_lstO : stOk (.lst true sz xs) = true := nr rfl
theorem isUndef_lstO : isUndef (.lst true sz xs) = false := nr rfl
theorem isAgg_lstO : isAggA (.lst true sz xs) = false := nr rfl
theorem capOk_lstO : capOk (.lst true sz xs) = true := nr rfl
theorem isNilV_lstO : isNilV (.lst true sz xs) = false := nr rfl
theorem stOk_lstS : stOk (.lst false sz xs) = true := nr rfl
theorem isUndef_lstS : isUndef (.lst false sz xs) = false := nr rfl
theorem isAgg_lstS : isAggA (.lst false sz xs) = false := nr rfl
theorem capOk_lstS : capOk (.lst false sz xs) = true := nr rfl
theorem isNilV_lstS : isNilV (.lst false sz xs) = false := nr rfl
theorem isNilList_lstS : setParts.isNilList (.lst false sz xs) = false := nr rfl
theorem stOk_ptrO : stOk (.ptr true x) = true := nr rfl
theorem isUndef_ptrO : isUndef (.ptr true x) = false := nr rfl
theorem isAgg_ptrO : isAggA (.ptr true x) = false := nr rfl
theorem capOk_ptrO : capOk (.ptr true x) = true := nr rfl
theorem isNilV_ptrO : isNilV (.ptr true x) = false := nr rfl
theorem isNilList_ptrO : setParts.isNilList (.ptr true x) = false := nr rfl
theorem stOk_ptrS : stOk (.ptr false x) = true := nr rfl
theorem isUndef_ptrS : isUndef (.ptr false x) = false := nr rfl
theorem isAgg_ptrS : isAggA (.ptr false x) = false := nr rfl
theorem capOk_ptrS : capOk (.ptr false x) = true := nr rfl
theorem isNilV_ptrS : isNilV (.ptr false x) = false := nr rfl
theorem isNilList_ptrS : setParts.isNilList (.ptr false x) = false := nr rfl
theorem stOk_mpO : stOk (.mp true es) = true := nr rfl
theorem isUndef_mpO : isUndef (.mp true es) = false := nr rfl
theorem isAgg_mpO : isAggA (.mp true es) = false := nr rfl
theorem capOk_mpO : capOk (.mp true es) = true := nr rfl
theorem isNilV_mpO : isNilV (.mp true es) = false := nr rfl
theorem isNilList_mpO : setParts.isNilList (.mp true es) = false := nr rfl
theorem stOk_mpS : stOk (.mp false es) = true := nr rfl
theorem isUndef_mpS : isUndef (.mp false es) = false := nr rfl
theorem isAgg_mpS : isAggA (.mp false es) = false := nr rfl
theorem capOk_mpS : capOk (.mp false es) = true := nr rfl
theorem isNilV_mpS : isNilV (.mp false es) = false := nr rfl
theorem isNilList_mpS : setParts.isNilList (.mp false es) = false := nr rfl
theorem stOk_fn : stOk (.fn f xs) = true := nr rfl
theorem isUndef_fn : isUndef (.fn f xs) = false := nr rfl
theorem isAgg_fn : isAggA (.fn f xs) = false := nr rfl
theorem capOk_fn : capOk (.fn f xs) = true := nr rfl
theorem isNilV_fn : isNilV (.fn f xs) = false := nr rfl
theorem isNilList_fn : setParts.isNilList (.fn f xs) = false := nr rfl
theorem stOk_href : stOk (.href l sz lo n) = true := nr rfl
theorem isUndef_href : isUndef (.href l sz lo n) = false := nr rfl
theorem isAgg_href : isAggA (.href l sz lo n) = false := nr rfl
theorem capOk_href : capOk (.href l sz lo n) = true := nr rfl
theorem isNilV_href : isNilV (.href l sz lo n) = false := nr rfl
theorem isNilList_href : setParts.isNilList (.href l sz lo n) = false := nr rfl
theorem stOk_adr : stOk (.adr l i fs off) = true := nr rfl
theorem isUndef_adr : isUndef (.adr l i fs off) = false := nr rfl
theorem isAgg_adr : isAggA (.adr l i fs off) = false := nr rfl
theorem capOk_adr : capOk (.adr l i fs off) = true := nr rfl
theorem isNilV_adr : isNilV (.adr l i fs off) = false := nr rfl
theorem isNilList_adr : setParts.isNilList (.adr l i fs off) = false := nr rfl
theorem stOk_mref : stOk (.mref l) = true := nr rfl
theorem isUndef_mref : isUndef (.mref l) = false := nr rfl
theorem isAgg_mref : isAggA (.mref l) = false := nr rfl
theorem capOk_mref : capOk (.mref l) = true := nr rfl
theorem isNilV_mref : isNilV (.mref l) = false := nr rfl
theorem isNilList_mref : setParts.isNilList (.mref l) = false := nr rfl
theorem isNilList_nil : setParts.isNilList (.lst true sz []) = true := nr rfl
variable {P : Program} {t : TypeId}
theorem fix_ifc : fixNil P t .ifc = .ifc := nr rfl
theorem fix_undef : fixNil P t .undef = .undef := nr rfl
theorem fix_agg : fixNil P t (.agg xs) = (.agg xs) := nr rfl
theorem fix_tup : fixNil P t (.tup xs) = (.tup xs) := nr rfl
theorem fix_lst : fixNil P t (.lst own sz xs) = (.lst own sz xs) := nr rfl
theorem fix_lstO : fixNil P t (.lst true sz xs) = (.lst true sz xs) := nr rfl
theorem fix_lstS : fixNil P t (.lst false sz xs) = (.lst false sz xs) := nr rfl
theorem fix_ptrO : fixNil P t (.ptr true x) = (.ptr true x) := nr rfl
theorem fix_ptrS : fixNil P t (.ptr false x) = (.ptr false x) := nr rfl
theorem fix_mpO : fixNil P t (.mp true es) = (.mp true es) := nr rfl
theorem fix_mpS : fixNil P t (.mp false es) = (.mp false es) := nr rfl
theorem fix_fn : fixNil P t (.fn f xs) = (.fn f xs) := nr rfl
theorem fix_href : fixNil P t (.href l sz lo n) = (.href l sz lo n) := nr rfl
theorem fix_adr : fixNil P t (.adr l i fs off) = (.adr l i fs off) := nr rfl
theorem fix_mref : fixNil P t (.mref l) = (.mref l) := nr rfl
theorem fix_intL {k : IntKind} {z : Int} : fixNil P t (.lit (.int k z)) = .lit (.int k z) := nr rfl
theorem isNilV_intL {k : IntKind} {z : Int} : isNilV (.lit (.int k z)) = false := nr rfl
theorem fix_boolL {b : Bool} : fixNil P t (.lit (.bool b)) = .lit (.bool b) := nr rfl
theorem isNilV_boolL {b : Bool} : isNilV (.lit (.bool b)) = false := nr rfl
theorem fix_strL {s : ByteArray} : fixNil P t (.lit (.string s)) = .lit (.string s) := nr rfl
theorem isNilV_strL {s : ByteArray} : isNilV (.lit (.string s)) = false := nr rfl
theorem fix_nilIL  : fixNil P t (.lit .nilIface) = .lit .nilIface := nr rfl
theorem isNilV_nilIL  : isNilV (.lit .nilIface) = false := nr rfl
theorem fix_nilFL  : fixNil P t (.lit .nilFunc) = .lit .nilFunc := nr rfl
theorem isNilV_nilFL  : isNilV (.lit .nilFunc) = false := nr rfl
theorem fix_ptrNL  : fixNil P t (.lit (.pointer none)) = .lit (.pointer none) := nr rfl
theorem isNilV_ptrNL  : isNilV (.lit (.pointer none)) = false := nr rfl
theorem fix_mapNL  : fixNil P t (.lit (.map none)) = .lit (.map none) := nr rfl
theorem isNilV_mapNL  : isNilV (.lit (.map none)) = false := nr rfl
theorem isNilV_nil : isNilV (.lit (.slice none 0 0)) = true := nr rfl
def fixT (P : Program) : Option TypeId -> AVal
 | some e => .lst true (P.cellsOf e) []
 | none => .lit (.slice none 0 0)
theorem fix_nil : fixNil P t (.lit (.slice none 0 0)) = fixT P (elemT P t) := by
 simp only [fixNil]
 cases elemT P t <;> rfl
theorem fixT_some {el : TypeId} : fixT P (some el) = .lst true (P.cellsOf el) [] := nr rfl
theorem opV_tmp : opV e (.tmp t) = copyOut ⟨t, []⟩ (e t) := nr rfl
theorem opV_const : opV e (.const v) = .lit v := nr rfl
theorem opV_func {g : FuncId} : opV e (.func g) = .fn g [] := nr rfl
theorem snap_lit : snap bad e (.lit v) = some (.lit v) := by simp only [snap]
theorem snap_ifc : snap bad e .ifc = some .ifc := by simp only [snap]
theorem snap_undef : snap bad e .undef = some .undef := by simp only [snap]
theorem snap_lstS : snap bad e (.lst false sz xs) = some (.lst false sz xs) := by simp only [snap]
theorem snap_ptrS : snap bad e (.ptr false x) = some (.ptr false x) := by simp only [snap]
theorem snap_mpS : snap bad e (.mp false es) = some (.mp false es) := by simp only [snap]
def aggO : Option (List AVal) -> Option AVal
 | some ys => some (.agg ys)
 | none => none
theorem aggO_some : aggO (some xs) = some (.agg xs) := nr rfl
theorem snap_agg : snap bad e (.agg xs) = aggO (snaps bad e xs) := by
 simp only [snap]
 cases snaps bad e xs <;> rfl
def fnO (f : Nat) : Option (List AVal) -> Option AVal
 | some ys => some (.fn f ys)
 | none => none
theorem fnO_some : fnO f (some xs) = some (.fn f xs) := nr rfl
theorem snap_fn : snap bad e (.fn f xs) = fnO f (snaps bad e xs) := by
 simp only [snap]
 cases snaps bad e xs <;> rfl
def snapH (b : Bool) (sz lo n : Nat) : Option AVal -> Option AVal
 | some (.lst true sz' xs) => if b = true then none else if sz' = sz /\ lo + n <= xs.length then some (.lst false sz (toShds ((xs.drop lo).take n))) else none
 | _ => none
theorem snap_href : snap bad e (.href l sz lo n) = snapH (bad l) sz lo n (getE e l) := by
 simp only [snap]
 cases hb : bad l with
 | true =>
  simp only [if_true]
  cases getE e l with
  | none => rfl
  | some y =>
   cases y with
   | lst own sz2 xs => cases own <;> simp [snapH]
   | _ => rfl
 | false =>
  simp only [Bool.false_eq_true, if_false]
  cases getE e l with
  | none => rfl
  | some y =>
   cases y with
   | lst own sz2 xs => cases own <;> simp [snapH]
   | _ => rfl
theorem snapH_some {sz' : Nat} : snapH false sz lo n (some (.lst true sz' xs)) = if sz' = sz /\ lo + n <= xs.length then some (.lst false sz (toShds ((xs.drop lo).take n))) else none := by simp [snapH]
def snapB (off : Nat) : Option (Nat × AVal) -> Option AVal
 | some (off', y) => if off' = off /\ noRef y = true then some (.ptr false (toShd y)) else none
 | none => none
def snapA (b : Bool) (i : Nat) (fs : List Nat) (off : Nat) : Option AVal -> Option AVal
 | some node => if b = true then none else snapB off (nodeAt i fs node)
 | none => none
theorem snap_adr : snap bad e (.adr l i fs off) = snapA (bad l) i fs off (getE e l) := by
 simp only [snap]
 cases hb : bad l with
 | true =>
  simp only [if_true]
  cases getE e l <;> simp [snapA]
 | false =>
  simp only [Bool.false_eq_true, if_false]
  cases getE e l with
  | none => rfl
  | some node =>
   simp only [snapA, Bool.false_eq_true, if_false]
   cases nodeAt i fs node <;> rfl
theorem snapA_some {node : AVal} : snapA false i fs off (some node) = snapB off (nodeAt i fs node) := by simp [snapA]
theorem snapB_some {off' : Nat} {y : AVal} : snapB off (some (off', y)) = if off' = off /\ noRef y = true then some (.ptr false (toShd y)) else none := nr rfl
theorem snaps_nil : snaps bad e [] = some [] := by simp only [snaps]
theorem snaps_cons : snaps bad e (x :: xs) = consO (snap bad e x) (snaps bad e xs) := by
 simp only [snaps, consO]
 cases snap bad e x <;> cases snaps bad e xs <;> rfl
theorem nthL_nil : nthL [] n = none := nr rfl
theorem nthL_cons : nthL (x :: xs) n = if n = 0 then some x else nthL xs (n - 1) := nr rfl
theorem wsTake_nil : wsTake [] n = 0 := nr rfl
theorem wsTake_cons : wsTake (x :: xs) n = if n = 0 then 0 else x.w + wsTake xs (n - 1) := nr rfl
theorem fldsOf_nil : fldsOf [] = [] := nr rfl
theorem fldsOf_cons : fldsOf (n :: fs) = .fld n :: fldsOf fs := nr rfl
theorem fuzzy_nil {p : List Step} : fuzzy [] p = true := by simp [fuzzy]
theorem fuzzy_cn {s : Step} {p : List Step} : fuzzy (s :: p) [] = false := by cases s <;> simp [fuzzy]
theorem fuzzy_ff {i j : Nat} {p q : List Step} : fuzzy (.fld i :: p) (.fld j :: q) = (i == j && fuzzy p q) := by simp [fuzzy]
theorem fuzzy_ii {i j : Nat} {p q : List Step} : fuzzy (.idx i :: p) (.idx j :: q) = fuzzy p q := by simp [fuzzy]
theorem fuzzy_fi {i j : Nat} {p q : List Step} : fuzzy (.fld i :: p) (.idx j :: q) = false := by simp [fuzzy]
theorem fuzzy_if {i j : Nat} {p q : List Step} : fuzzy (.idx i :: p) (.fld j :: q) = false := by simp [fuzzy]
end
theorem noRefs_map {α : Type} {f : α -> AVal} {xs : List α} (h : ∀ x, noRef (f x) = true) : noRefs (xs.map f) = true := by
 induction xs with
 | nil => rfl
 | cons x xs ih => simp only [List.map_cons, noRefs, h, ih, Bool.and_self]
theorem closedAs_map {α : Type} {f : α -> AVal} {xs : List α} (h : ∀ x, closedA (f x) = true) : closedAs (xs.map f) = true := by
 induction xs with
 | nil => rfl
 | cons x xs ih => simp only [List.map_cons, closedAs, h, ih, Bool.and_self]
theorem flatAs_map {α : Type} {f : α -> AVal} {xs : List α} (h : ∀ x, flatA (f x) = true) : flatAs (xs.map f) = true := by
 induction xs with
 | nil => rfl
 | cons x xs ih => simp only [List.map_cons, flatAs, h, ih, Bool.and_self]
theorem toShds_flat {α : Type} {f : α -> AVal} {xs : List α} (h : ∀ x, toShd (f x) = f x) : toShds (xs.map f) = xs.map f := by
 induction xs with
 | nil => rfl
 | cons x xs ih => simp only [List.map_cons, toShds, h, ih]
theorem toShds_mapTo {α : Type} {f g : α -> AVal} {xs : List α} (h : ∀ x, toShd (f x) = g x) : toShds (xs.map f) = xs.map g := by
 induction xs with
 | nil => rfl
 | cons x xs ih => simp only [List.map_cons, toShds, h, ih]
theorem bytesA_eq {s : ByteArray} : bytesA s = s.data.toList.map byteA := nr rfl
theorem strOfA_map {xs : List UInt8} : strOfA (xs.map byteA) = some xs := by
 induction xs with
 | nil => rfl
 | cons b xs ih =>
  have h : byteOfA (byteA b) = some b := by
   simp only [byteA, byteOfA, Option.some.injEq]
   apply UInt8.toNat_inj.1
   have := b.toNat_lt
   simp
  simp only [List.map_cons, strOfA, h, ih]
theorem wrap64 {n : Int} (h1 : -9223372036854775808 <= n) (h2 : n <= 9223372036854775807) : IntKind.i64.wrap n = n := wrap_in (by simpa [IntKind.min, IntKind.bits, IntKind.signed] using h1) (by simpa [IntKind.max, IntKind.bits, IntKind.signed] using h2)
theorem wrapU64 {n : Int} (h1 : 0 <= n) (h2 : n <= 18446744073709551615) : IntKind.u64.wrap n = n := wrap_in (by simpa [IntKind.min, IntKind.bits, IntKind.signed] using h1) (by simpa [IntKind.max, IntKind.bits, IntKind.signed] using h2)
theorem wrapU32 {n : Int} (h1 : 0 <= n) (h2 : n <= 4294967295) : IntKind.u32.wrap n = n := wrap_in (by simpa [IntKind.min, IntKind.bits, IntKind.signed] using h1) (by simpa [IntKind.max, IntKind.bits, IntKind.signed] using h2)
theorem wrapU8 {n : Int} (h1 : 0 <= n) (h2 : n <= 255) : IntKind.u8.wrap n = n := wrap_in (by simpa [IntKind.min, IntKind.bits, IntKind.signed] using h1) (by simpa [IntKind.max, IntKind.bits, IntKind.signed] using h2)
section
variable {k r : Nat} {x : AVal} {l : List (Nat × AVal)} {f : AVal -> AVal} {ks : List Nat} {xs : List AVal} {e : Env} {rs : List Nat}
theorem mkE_nil' : mkE [] r = .undef := nr rfl
theorem mkE_cons' : mkE ((k, x) :: l) r = if r = k then x else mkE l r := nr rfl
theorem mapE_nil' : mapE f [] = [] := nr rfl
theorem mapE_cons' : mapE f ((k, x) :: l) = (k, f x) :: mapE f l := nr rfl
theorem delE_nil' : delE r [] = [] := nr rfl
theorem delE_cons' : delE r ((k, x) :: l) = if k = r then delE r l else (k, x) :: delE r l := nr rfl
theorem onlyE_nil' : onlyE ks f [] = [] := nr rfl
theorem onlyE_cons' : onlyE ks f ((k, x) :: l) = if ks.contains k = true then (k, f x) :: onlyE ks f l else onlyE ks f l := nr rfl
theorem numbered_nil' : numbered k [] = [] := nr rfl
theorem numbered_cons' : numbered k (x :: xs) = (k, x) :: numbered (k + 1) xs := nr rfl
theorem agrees_nil' : agrees e [] = True := nr rfl
theorem agrees_cons' : agrees e ((k, x) :: l) = (e k = x /\ agrees e l) := nr rfl
theorem argsV_nil' : argsV e [] = [] := nr rfl
theorem argsV_cons' {o : Operand} {os : List Operand} : argsV e (o :: os) = opV e o :: argsV e os := nr rfl
theorem partsV_nil' : partsV e [] = [] := nr rfl
theorem partsV_cons' {o : Operand} {os : List (Nat × Operand)} : partsV e ((k, o) :: os) = (k, opV e o) :: partsV e os := nr rfl
theorem elsV_nil' {P : Program} {t : TypeId} : elsV P t e [] = [] := nr rfl
theorem elsV_cons' {P : Program} {t : TypeId} {o : Operand} {os : List (Nat × Operand)} : elsV P t e ((k, o) :: os) = fixNil P t (opV e o) :: elsV P t e os := nr rfl
theorem fstL_nil' : fstL [] = [] := nr rfl
theorem fstL_cons' {o : Operand} {os : List (Nat × Operand)} : fstL ((k, o) :: os) = k :: fstL os := nr rfl
theorem allEls_nil' : allEls k [] = True := nr rfl
theorem allEls_cons' : allEls k (x :: xs) = ((x.w = k /\ noRef x = true /\ stOk x = true) /\ allEls k xs) := nr rfl
theorem comps_nil' {os : List Oper} : comps os [] = [] := nr rfl
theorem comps_cons' {os l : List Oper} {o : Oper} : comps os (o :: l) = compO os o :: comps os l := nr rfl
theorem compO_none {os : List Oper} {d : Option Tmp} {op : Op} {ty : TypeId} {pos : String} {after : Array Edge} : compO os ⟨d, op, ty, pos, after, none⟩ = ⟨d, op, ty, none⟩ := nr rfl
theorem compO_some {os : List Oper} {d : Option Tmp} {op : Op} {ty : TypeId} {pos : String} {after : Array Edge} {j : Nat} {b : Bool} : compO os ⟨d, op, ty, pos, after, some (j, b)⟩ = ⟨d, op, ty, some (dstL os j, b)⟩ := nr rfl
theorem dstL_cons' {os : List Oper} {d : Option Tmp} {op : Op} {ty : TypeId} {pos : String} {after : Array Edge} {g : Option (Nat × Bool)} : dstL (⟨d, op, ty, pos, after, g⟩ :: os) k = if k = 0 then d else dstL os (k - 1) := nr rfl
theorem opL_cons' {os : List Oper} {o : Oper} : opL (o :: os) k = if k = 0 then some o else opL os (k - 1) := nr rfl
theorem frzL_nil' : frzL rs [] = [] := nr rfl
theorem frzL_cons' : frzL rs ((k, x) :: l) = (k, if rs.contains k = true then toShd x else killP (fun m => rs.contains m.r) x) :: frzL rs l := nr rfl
theorem draws_nil' : Draws.at [] k = none := nr rfl
theorem draws_cons' {d : Draw} {l : Draws} : Draws.at ((r, d) :: l) k = if k = r then some d else Draws.at l k := nr rfl
theorem okL_nil' : okL [] = True := nr rfl
theorem okL_cons' : okL ((k, x) :: l) = (okA x /\ okL l) := nr rfl
theorem lo_none : loI none = some 0 := nr rfl
theorem lo_int {q : IntKind} {n : Int} : loI (some (.lit (.int q n))) = some n := nr rfl
theorem hi_none : hiI none k = some (k : Int) := nr rfl
theorem hi_int {q : IntKind} {n : Int} : hiI (some (.lit (.int q n))) k = some n := nr rfl
theorem optV_none : optV e none = none := nr rfl
theorem optV_some {o : Operand} : optV e (some o) = some (opV e o) := nr rfl
theorem okA_lit {v : Value} : okA (.lit v) = litOk v := by simp only [okA]
theorem okA_agg : okA (.agg xs) = okAs xs := by simp only [okA]
theorem okA_tup : okA (.tup xs) = okAs xs := by simp only [okA]
theorem okA_lst {own : Bool} {sz : Nat} : okA (.lst own sz xs) = (xs.length <= maxLen /\ okAs xs) := by simp only [okA]
theorem okA_ptr {own : Bool} : okA (.ptr own x) = okA x := by simp only [okA]
theorem okA_fn : okA (.fn k xs) = okAs xs := by simp only [okA]
theorem okAs_nil' : okAs [] = True := by simp only [okAs]
theorem okAs_cons' : okAs (x :: xs) = (okA x /\ okAs xs) := by simp only [okAs]
theorem litOk_int {q : IntKind} {n : Int} : litOk (.int q n) = (q.min <= n /\ n <= q.max) := nr rfl
theorem litOk_str {s : ByteArray} : litOk (.string s) = (s.size <= maxLen) := nr rfl
theorem toList_lit {os : List Oper} : os.toArray.toList = os := nr rfl
end
attribute [go_sem] kill_lit kill_ifc kill_undef kill_lst kill_ptrS kill_mpO kill_mpS kill_agg kill_tup kill_fn kill_ptrO kill_href kill_adr kill_mref kills_nil kills_cons copy_lit copy_ifc copy_undef copy_lstS copy_ptrS copy_mpS copy_href copy_adr copy_mref copy_agg copy_tup copy_fn copy_lstO copy_ptrO copy_mpO copys_nil copys_cons noRef_lit noRef_ifc noRef_undef noRef_agg noRef_tup noRef_lst noRef_ptrO noRef_ptrS noRef_fn noRef_mpO noRef_mpS noRef_href noRef_adr noRef_mref noRefs_nil noRefs_cons closed_lit closed_ifc closed_undef closed_agg closed_tup closed_lst closed_ptrO closed_ptrS closed_fn closed_mpO closed_mpS closeds_nil closeds_cons flat_lit flat_ifc flat_undef flat_agg flat_tup flat_lstO flat_lstS flat_ptrO flat_ptrS flat_fn flat_mpO flat_mpS flat_href flat_adr flat_mref flats_nil flats_cons rok_lit rok_ifc rok_undef rok_agg rok_tup rok_lst rok_ptrO rok_ptrS rok_fn rok_mpO rok_mpS rok_href rok_adr rok_mref roks_nil roks_cons blank_lit blank_ifc blank_undef blank_lstS blank_ptrS blank_mpS blank_href blank_adr blank_mref blank_lstO blank_ptrO blank_mpO blank_agg blank_fn blanks_nil blanks_cons shd_lit shd_ifc shd_undef shd_href shd_adr shd_mref shd_agg shd_tup shd_fn shd_lst shd_ptrO shd_mp shds_nil shds_cons stOk_lit isUndef_lit isAgg_lit capOk_lit isNilList_lit stOk_ifc isUndef_ifc isAgg_ifc capOk_ifc isNilV_ifc isNilList_ifc stOk_undef isUndef_undef isAgg_undef capOk_undef isNilV_undef isNilList_undef stOk_agg isUndef_agg isAgg_agg capOk_agg isNilV_agg isNilList_agg stOk_tup isUndef_tup isAgg_tup capOk_tup isNilV_tup isNilList_tup stOk_lst isUndef_lst isAgg_lst capOk_lst isNilV_lst stOk_lstO isUndef_lstO isAgg_lstO capOk_lstO isNilV_lstO stOk_lstS isUndef_lstS isAgg_lstS capOk_lstS isNilV_lstS isNilList_lstS stOk_ptrO isUndef_ptrO isAgg_ptrO capOk_ptrO isNilV_ptrO isNilList_ptrO stOk_ptrS isUndef_ptrS isAgg_ptrS capOk_ptrS isNilV_ptrS isNilList_ptrS stOk_mpO isUndef_mpO isAgg_mpO capOk_mpO isNilV_mpO isNilList_mpO stOk_mpS isUndef_mpS isAgg_mpS capOk_mpS isNilV_mpS isNilList_mpS stOk_fn isUndef_fn isAgg_fn capOk_fn isNilV_fn isNilList_fn stOk_href isUndef_href isAgg_href capOk_href isNilV_href isNilList_href stOk_adr isUndef_adr isAgg_adr capOk_adr isNilV_adr isNilList_adr stOk_mref isUndef_mref isAgg_mref capOk_mref isNilV_mref isNilList_mref isNilList_nil fix_ifc fix_undef fix_agg fix_tup fix_lst fix_lstO fix_lstS fix_ptrO fix_ptrS fix_mpO fix_mpS fix_fn fix_href fix_adr fix_mref fix_intL isNilV_intL fix_boolL isNilV_boolL fix_strL isNilV_strL fix_nilIL isNilV_nilIL fix_nilFL isNilV_nilFL fix_ptrNL isNilV_ptrNL fix_mapNL isNilV_mapNL isNilV_nil fix_nil fixT_some opV_tmp opV_const opV_func snap_lit snap_ifc snap_undef snap_lstS snap_ptrS snap_mpS aggO_some snap_agg fnO_some snap_fn snap_href snapH_some snap_adr snapA_some snapB_some snaps_nil snaps_cons nthL_nil nthL_cons wsTake_nil wsTake_cons fldsOf_nil fldsOf_cons fuzzy_nil fuzzy_cn fuzzy_ff fuzzy_ii fuzzy_fi fuzzy_if noRefs_map closedAs_map flatAs_map toShds_flat bytesA_eq strOfA_map vm_skip vm_label vm_exit vm_ret vm_seq vm_block vm_region vm_drawn drawK_chain drawK_tree vm_cond joinB_f joinAt_const joinAt_tmp joinQ_n joinQ_r joinQ_x Option.isSome_some Option.isSome_none branch_true branch_false f_nil f_nilr f_code f_codex f_coder f_end f_endx f_endr f_again f_againx f_againr f_stop next_eq thenI_eq thenE_eq thenB_eq thenL_eq r_guard r_guardn gj_tt gj_ff gj_tf gj_ft gj_nil r_move r_assign r_bin r_un r_pick r_clear clrC_eq clrT_some clrA_some r_copy cpT_some cpA_some r_load ldC_eq ldN_ff ldN_tt ml_some ml_none rootOf_adr mlR_mk ldF_ff ldF_tt ldB_ptr fl_some fl_none frzB_mk r_nilCheck r_fieldAddr r_field r_indexAddr r_index r_extract r_alloc r_box r_build r_slice r_convert r_makeFunc r_len r_makeMap r_lookup r_mapUpdate esOf_mref esOf_mp esQ_some lookK_some lookZ_lit lookV_true lookV_false mapUpK_some mapUp_mp keyB_int keyB_str keyB_bool setS_mk r_max r_min mmK_int mmV_max mmV_min r_call fnK_fn r_callt r_append getE_mk loc_fld loc_idx loc_flds getQ_some getP_nil getP_agg getP_tup getP_ptr getP_lst setL_nil setL_cons putP_nil putP_agg putP_tup putP_ptr addF_some getFQ_some getF_nil getF_agg putF_nil putF_agg w_agg w_lit w_lst w_href w_adr w_ptr w_fn w_undef w_ifc ws_nil ws_cons elemAt_eq nodeAt_ptr load_ptr load_adr loadN_some loadA_some loadA_map loadA_cons putO_some putO_none tgt_some tgt_none restrict_mk notKept_mk killRoots_mk below_mk near_mk mvr_mk retM_mk takeE_mk clr_mk setN0_mk setN_mk r_storeJ thenS_eq stAdr_adr stN_some stAt_some stAt_map stAt_cons stVal_true stVal_false stGo_eq stMv_eq stEndN_some stEnd_some stEnd_map storeOk_eq nodePut0_lst nodePut0_ptr nodePut_lst nodePut_ptr viaLst_nil viaLst_ptr viaLst_lst viaQ_some viaLst_agg modify_map mv_lit mv_undef mv_ifc mv_lst mv_ptr mv_fn mv_href mv_adr mvHref_true mvHref_false mvAdr_true mvAdr_false mv_agg aggC_eq mvs_nil mvs_cons mvNext_eq appendK_ff slotOf_tmp appP_true appP_false appMv_some appMvA_lst appendK_tt fz_some fz_none frzAppT_some frzAppB_href frzApp_some appT_some appC_str appC_lst appC_href appBase_nil appBase_href appH_some elems_lst elems_lit elems_href elsQ_some endC_none endT_none endC_some endT_some endP_ptr retK_eq retJ_one retJ_nil retJ_two consO_some retVs_nil retVs_cons retV_tmp retV_cell retCell_adr retN_some retA_some b_add b_sub b_mul b_quo b_rem b_and b_or b_xor b_shl b_shr b_eql b_neq b_lss b_leq b_gtr b_geq s_add s_eql s_neq s_lss s_gtr s_leq s_geq b_bool boolK_eql boolK_neq b_agg aggEqP_some aggEqK_eql aggEqK_neq b_nilLst b_nilHref nilEqT_some u_not u_neg u_xor unK_some allocK_some nilCheck_adr nilCheck_ptr fieldAddr_adr fieldAddr_ptr fptrK_some field_some indexAddr_lst indexAddr_href ixK_map len_str len_lst len_href len_mref extract_tup extK_some index_str makeFunc_eq build_some buildS_some setParts_nil setParts_cons setP_some okAs_map
theorem gj_dec {p : Prop} [Decidable p] {want : Bool} {c : Ctx} {qt : Bool} {rid : Nat} {d : Option Tmp} {op : Op} {ty : TypeId} {ss : List Ins} {e : Env} {K : Env -> Prop} (h1 : p -> guardJ (.lit (.bool (decide p))) want c qt rid d op ty ss e K)
  (h2 : ¬ p -> guardJ (.lit (.bool (decide p))) want c qt rid d op ty ss e K) : guardJ (.lit (.bool (decide p))) want c qt rid d op ty ss e K := if h : p then h1 h else h2 h
theorem gj_ndec {p : Prop} [Decidable p] {want : Bool} {c : Ctx} {qt : Bool} {rid : Nat} {d : Option Tmp} {op : Op} {ty : TypeId} {ss : List Ins} {e : Env} {K : Env -> Prop} (h1 : p -> guardJ (.lit (.bool (decide (¬ p)))) want c qt rid d op ty ss e K)
  (h2 : ¬ p -> guardJ (.lit (.bool (decide (¬ p)))) want c qt rid d op ty ss e K) : guardJ (.lit (.bool (decide (¬ p)))) want c qt rid d op ty ss e K := if h : p then h1 h else h2 h
theorem branch_ndec {c : Ctx} {pl : Draws} {R : Env -> Prop} {fs : List Frame} {e : Env} {x y : Code} {p : Prop} [Decidable p] (h1 : p -> vm c pl y (fQ c pl R fs) e) (h2 : ¬ p -> vm c pl x (fQ c pl R fs) e) : branchK c pl R fs (.lit (.bool (decide (¬ p)))) x y e :=
 ⟨_, rfl, fun h => h2 (of_decide_eq_true h), fun h => h1 (Decidable.not_not.1 (of_decide_eq_false h))⟩
theorem branch_nbool {c : Ctx} {pl : Draws} {R : Env -> Prop} {fs : List Frame} {e : Env} {x y : Code} {b : Bool} (h1 : b = true -> vm c pl y (fQ c pl R fs) e) (h2 : b = false -> vm c pl x (fQ c pl R fs) e) : branchK c pl R fs (.lit (.bool (!b))) x y e :=
 ⟨_, rfl, fun h => h2 (by simpa using h), fun h => h1 (by simpa using h)⟩
theorem gj_nbool {b : Bool} {want : Bool} {c : Ctx} {qt : Bool} {rid : Nat} {d : Option Tmp} {op : Op} {ty : TypeId} {ss : List Ins} {e : Env} {K : Env -> Prop} (h1 : b = true -> guardJ (.lit (.bool (!b))) want c qt rid d op ty ss e K)
  (h2 : b = false -> guardJ (.lit (.bool (!b))) want c qt rid d op ty ss e K) : guardJ (.lit (.bool (!b))) want c qt rid d op ty ss e K := by cases b <;> simp_all
theorem gj_bool {b : Bool} {want : Bool} {c : Ctx} {qt : Bool} {rid : Nat} {d : Option Tmp} {op : Op} {ty : TypeId} {ss : List Ins} {e : Env} {K : Env -> Prop} (h1 : b = true -> guardJ (.lit (.bool b)) want c qt rid d op ty ss e K)
  (h2 : b = false -> guardJ (.lit (.bool b)) want c qt rid d op ty ss e K) : guardJ (.lit (.bool b)) want c qt rid d op ty ss e K := by cases b <;> simp_all
def chainK (c : Ctx) (qt : Bool) (rid : Nat) (os : List Oper) (is : List Nat) (K : Env -> Prop) : Env -> Prop := fun e => regC c qt rid os is e K
def chainT (c : Ctx) (qt : Bool) (rid : Nat) (os : List Oper) (is : List Nat) (e : Env) (K : Env -> Prop) : Option Oper -> Prop
 | some o => regI c qt rid [compO os o] e (chainK c qt rid os is K)
 | none => False
def treeK (c : Ctx) (qt : Bool) (rid : Nat) (os : List Oper) (p : Plan) (K : Env -> Prop) : Env -> Prop := fun e => regQ c qt rid os p e K
def treeT (c : Ctx) (qt : Bool) (rid : Nat) (os : List Oper) (p : Plan) (e : Env) (K : Env -> Prop) : Option Oper -> Prop
 | some o => regI c qt rid [compO os o] e (treeK c qt rid os p K)
 | none => False
section
variable {c : Ctx} {qt : Bool} {rid i : Nat} {os : List Oper} {is : List Nat} {p : Plan} {ps : Plans} {e : Env} {K : Env -> Prop} {o : Oper}
theorem regC_nil' : regC c qt rid os [] e K = K e := nr rfl
theorem regC_cons' : regC c qt rid os (i :: is) e K = chainT c qt rid os is e K (opL os i) := by
 simp only [regC]
 cases opL os i <;> rfl
theorem chainT_some : chainT c qt rid os is e K (some o) = regI c qt rid [compO os o] e (chainK c qt rid os is K) := nr rfl
theorem chainK_eq : chainK c qt rid os is K e = regC c qt rid os is e K := nr rfl
theorem regQ_done : regQ c qt rid os .done e K = K e := by simp only [regQ]
theorem regQ_take : regQ c qt rid os (.take i p) e K = treeT c qt rid os p e K (opL os i) := by
 simp only [regQ]
 cases opL os i <;> rfl
theorem regQ_last : regQ c qt rid os (.last i) e K = treeT c false rid os .done e K (opL os i) := by
 simp only [regQ]
 cases opL os i with
 | none => rfl
 | some o => simp only [treeT, regI, treeK, regQ]
theorem regQ_all : regQ c qt rid os (.all ps) e K = regQs c qt rid os ps e K := by simp only [regQ]
theorem regQs_nil : regQs c qt rid os .nil e K = True := by simp only [regQs]
theorem regQs_cons : regQs c qt rid os (.cons i p ps) e K = (treeT c qt rid os p e K (opL os i) /\ regQs c qt rid os ps e K) := by
 simp only [regQs]
 cases opL os i <;> rfl
theorem treeT_some : treeT c qt rid os p e K (some o) = regI c qt rid [compO os o] e (treeK c qt rid os p K) := nr rfl
theorem treeK_eq : treeK c qt rid os p K e = regQ c qt rid os p e K := nr rfl
theorem ri_nil' : regI c qt rid [] e K = K e := nr rfl
end
attribute [go_sem] appE_eq mutE_eq setO_some regC_nil' regC_cons' chainT_some chainK_eq regQ_done regQ_take regQ_last regQ_all regQs_nil regQs_cons treeT_some treeK_eq ri_nil'
theorem bnot_dec {p : Prop} [Decidable p] : (!decide p) = decide (¬ p) := (decide_not (p := p)).symm
theorem take_len_map {α : Type} {f : α -> AVal} {xs : List α} : List.take xs.length (xs.map f) = xs.map f := by
 have := List.take_length (l := xs.map f)
 rwa [List.length_map] at this
attribute [go_sem] take_len_map Nat.le_refl
theorem maxLen_eq : maxLen = 9223372036854775807 := by decide
theorem min_i64 : IntKind.i64.min = -9223372036854775808 := by decide
theorem max_i64 : IntKind.i64.max = 9223372036854775807 := by decide
theorem min_i32 : IntKind.i32.min = -2147483648 := by decide
theorem max_i32 : IntKind.i32.max = 2147483647 := by decide
theorem min_i16 : IntKind.i16.min = -32768 := by decide
theorem max_i16 : IntKind.i16.max = 32767 := by decide
theorem min_i8 : IntKind.i8.min = -128 := by decide
theorem max_i8 : IntKind.i8.max = 127 := by decide
theorem min_u64 : IntKind.u64.min = 0 := by decide
theorem max_u64 : IntKind.u64.max = 18446744073709551615 := by decide
theorem min_u32 : IntKind.u32.min = 0 := by decide
theorem max_u32 : IntKind.u32.max = 4294967295 := by decide
theorem min_u16 : IntKind.u16.min = 0 := by decide
theorem max_u16 : IntKind.u16.max = 65535 := by decide
theorem min_u8 : IntKind.u8.min = 0 := by decide
theorem max_u8 : IntKind.u8.max = 255 := by decide
attribute [go_sem] maxLen_eq min_i64 max_i64 min_i32 max_i32 min_i16 max_i16 min_i8 max_i8 min_u64 max_u64 min_u32 max_u32 min_u16 max_u16 min_u8 max_u8
mutual
def shdA : AVal -> Bool
 | .undef => true
 | .lit _ => true
 | .ifc => true
 | .agg xs => shdAs xs
 | .lst false _ _ => true
 | .ptr false _ => true
 | .mp false _ => true
 | .fn _ caps => shdAs caps
 | _ => false
def shdAs : List AVal -> Bool
 | [] => true
 | x :: xs => shdA x && shdAs xs
end
mutual
theorem shd_kill {d : Loc -> Bool} : ∀ (x : AVal), shdA x = true -> killP d x = x
 | .undef, _ => by simp only [killP]
 | .lit _, _ => by simp only [killP]
 | .ifc, _ => by simp only [killP]
 | .agg xs, h => by simp only [shdA] at h; simp only [killP, shds_kill xs h]
 | .lst false _ _, _ => by simp only [killP]
 | .ptr false _, _ => by simp only [killP]
 | .mp false _, _ => by simp only [killP]
 | .fn _ caps, h => by simp only [shdA] at h; simp only [killP, shds_kill caps h]
 | .tup _, h => by simp [shdA] at h
 | .lst true _ _, h => by simp [shdA] at h
 | .ptr true _, h => by simp [shdA] at h
 | .mp true _, h => by simp [shdA] at h
 | .href .., h => by simp [shdA] at h
 | .adr .., h => by simp [shdA] at h
 | .mref _, h => by simp [shdA] at h
theorem shds_kill {d : Loc -> Bool} : ∀ (xs : List AVal), shdAs xs = true -> killPs d xs = xs
 | [], _ => by simp only [killPs]
 | x :: xs, h => by
  simp only [shdAs, Bool.and_eq_true] at h
  simp only [killPs, shd_kill x h.1, shds_kill xs h.2]
end
mutual
theorem shd_copy : ∀ (x : AVal) (l : Loc), shdA x = true -> copyOut l x = x
 | .undef, _, _ => by simp only [copyOut]
 | .lit _, _, _ => by simp only [copyOut]
 | .ifc, _, _ => by simp only [copyOut]
 | .agg xs, l, h => by simp only [shdA] at h; simp only [copyOut, shds_copy xs l 0 h]
 | .lst false _ _, _, _ => by simp only [copyOut]
 | .ptr false _, _, _ => by simp only [copyOut]
 | .mp false _, _, _ => by simp only [copyOut]
 | .fn _ caps, l, h => by simp only [shdA] at h; simp only [copyOut, shds_copy caps l 0 h]
 | .tup _, _, h => by simp [shdA] at h
 | .lst true _ _, _, h => by simp [shdA] at h
 | .ptr true _, _, h => by simp [shdA] at h
 | .mp true _, _, h => by simp [shdA] at h
 | .href .., _, h => by simp [shdA] at h
 | .adr .., _, h => by simp [shdA] at h
 | .mref _, _, h => by simp [shdA] at h
theorem shds_copy : ∀ (xs : List AVal) (l : Loc) (k : Nat), shdAs xs = true -> copyOuts l k xs = xs
 | [], _, _, _ => by simp only [copyOuts]
 | x :: xs, l, k, h => by
  simp only [shdAs, Bool.and_eq_true] at h
  simp only [copyOuts, shd_copy x _ h.1, shds_copy xs l (k + 1) h.2]
end
mutual
theorem shd_snap {bad : Loc -> Bool} {e : Env} : ∀ (x : AVal), shdA x = true -> snap bad e x = some x
 | .undef, _ => by simp only [snap]
 | .lit _, _ => by simp only [snap]
 | .ifc, _ => by simp only [snap]
 | .agg xs, h => by simp only [shdA] at h; simp only [snap, shds_snap xs h]
 | .lst false _ _, _ => by simp only [snap]
 | .ptr false _, _ => by simp only [snap]
 | .mp false _, _ => by simp only [snap]
 | .fn _ caps, h => by simp only [shdA] at h; simp only [snap, shds_snap caps h]
 | .tup _, h => by simp [shdA] at h
 | .lst true _ _, h => by simp [shdA] at h
 | .ptr true _, h => by simp [shdA] at h
 | .mp true _, h => by simp [shdA] at h
 | .href .., h => by simp [shdA] at h
 | .adr .., h => by simp [shdA] at h
 | .mref _, h => by simp [shdA] at h
theorem shds_snap {bad : Loc -> Bool} {e : Env} : ∀ (xs : List AVal), shdAs xs = true -> snaps bad e xs = some xs
 | [], _ => by simp only [snaps]
 | x :: xs, h => by
  simp only [shdAs, Bool.and_eq_true] at h
  simp only [snaps, shd_snap x h.1, shds_snap xs h.2]
end
section
variable {xs : List AVal} {x : AVal} {own : Bool} {sz : Nat} {v : Value} {f : Nat} {es : List (Value × Value)}
theorem shdA_lit : shdA (.lit v) = true := by simp only [shdA]
theorem shdA_undef : shdA .undef = true := by simp only [shdA]
theorem shdA_agg : shdA (.agg xs) = shdAs xs := by simp only [shdA]
theorem shdA_lst : shdA (.lst false sz xs) = true := by simp only [shdA]
theorem shdA_ptr : shdA (.ptr false x) = true := by simp only [shdA]
theorem shdA_fn : shdA (.fn f xs) = shdAs xs := by simp only [shdA]
theorem shdAs_nil : shdAs [] = true := by simp only [shdAs]
theorem shdAs_cons : shdAs (x :: xs) = (shdA x && shdAs xs) := by simp only [shdAs]
end
attribute [go_sem] shdA_lit shdA_undef shdA_agg shdA_lst shdA_ptr shdA_fn shdAs_nil shdAs_cons
attribute [go_sem] Int.toNat_natCast
attribute [go_sem] AVal.lit.injEq AVal.agg.injEq AVal.tup.injEq AVal.lst.injEq AVal.ptr.injEq AVal.fn.injEq Value.int.injEq Value.bool.injEq Value.string.injEq List.cons.injEq Value.slice.injEq
theorem getD_mem {α : Type} [Inhabited α] {xs : List α} {i : Nat} (h : i < xs.length) : xs.getD i default ∈ xs := by
 simp only [List.getD, List.getElem?_eq_getElem h, Option.getD_some]
 exact List.getElem_mem h
theorem take_succ_getD {α : Type} [Inhabited α] {xs : List α} {i : Nat} (h : i < xs.length) : xs.take (i + 1) = xs.take i ++ [xs.getD i default] := by
 rw [List.take_succ_eq_append_getElem h]
 simp [List.getD, List.getElem?_eq_getElem h]
def isUp : Nat -> List Nat -> Nat -> Bool
 | k, [], n => k == n
 | k, x :: xs, n => x == k && isUp (k + 1) xs n
theorem isUp_eq : ∀ (xs : List Nat) (k n : Nat), isUp k xs n = true ↔ k <= n /\ xs = List.range' k (n - k)
 | [], k, n => by
  simp only [isUp, beq_iff_eq]
  constructor
  ·rintro rfl
   simp
  ·rintro ⟨h1, h2⟩
   have := congrArg List.length h2
   simp at this
   omega
 | x :: xs, k, n => by
  simp only [isUp, Bool.and_eq_true, beq_iff_eq, isUp_eq xs (k + 1) n]
  constructor
  ·rintro ⟨rfl, h1, h2⟩
   refine ⟨by omega, ?_⟩
   rw [show n - x = (n - (x + 1)) + 1 by omega, List.range'_succ, h2]
  ·rintro ⟨h1, h2⟩
   have hk : k < n := by
    apply Nat.lt_of_not_le
    intro h
    rw [show n - k = 0 by omega] at h2
    simp at h2
   rw [show n - k = (n - (k + 1)) + 1 by omega, List.range'_succ] at h2
   simp only [List.cons.injEq] at h2
   exact ⟨h2.1, hk, h2.2⟩
theorem buildSlice_eq {P : Program} {el : TypeId} {len : Nat} {ks : List Nat} {mvr : Nat -> Bool} {xs : List AVal} {e : Env} {K : List AVal -> Env -> Prop} :
  buildSliceK P el len ks (moveVs mvr xs e) K = ((isUp 0 ks len = true /\ 0 < P.cellsOf el /\ len * P.cellsOf el <= 16777216 /\ (zeroOf P el).isSome = true) /\ moveKs mvr xs [] e K) := by
 have h : (ks = List.range len) = (isUp 0 ks len = true) := by
  apply propext
  rw [isUp_eq, List.range_eq_range']
  simp
 simp only [buildSliceK, h, moveKs, movesK, List.nil_append, and_assoc]
 rfl
theorem isUp_nil {k n : Nat} : isUp k [] n = (k == n) := nr rfl
theorem isUp_cons {k n x : Nat} {xs : List Nat} : isUp k (x :: xs) n = (x == k && isUp (k + 1) xs n) := nr rfl
def bsT (P : Program) (n : Nat) (ks : List Nat) (mvr : Nat -> Bool) (os : List (Nat × Operand)) (e : Env) (c : Ctx) (qt : Bool) (rid : Nat) (d : Option Tmp) (ss : List Ins) (K : Env -> Prop) : Option TypeId -> Prop
 | some el => (isUp 0 ks n = true /\ 0 < P.cellsOf el /\ n * P.cellsOf el <= 16777216 /\ (zeroOf P el).isSome = true) /\ moveKs mvr (elsV P el e os) [] e (thenL c qt rid d ss K (P.cellsOf el))
 | none => False
theorem r_buildSlice2 {c : Ctx} {qt : Bool} {rid : Nat} {e : Env} {K : Env -> Prop} {d : Option Tmp} {ty : TypeId} {ss : List Ins} {t : TypeId} {n : Nat} {ps : List (Nat × Operand)} :
  regI c qt rid (⟨d, .buildSlice t n ps.toArray, ty, none⟩ :: ss) e K = bsT c.g.P n (fstL ps) (c.mvr rid (tgt c d)) ps e c qt rid d ss K (elemT c.g.P t) := by
 rw [r_buildSlice]
 cases elemT c.g.P t with
 | none => rfl
 | some el => simp only [buildSlice_eq, bsT]
theorem bsT_some {P : Program} {n : Nat} {ks : List Nat} {mvr : Nat -> Bool} {os : List (Nat × Operand)} {e : Env} {c : Ctx} {qt : Bool} {rid : Nat} {d : Option Tmp} {ss : List Ins} {K : Env -> Prop} {el : TypeId} :
  bsT P n ks mvr os e c qt rid d ss K (some el) = ((isUp 0 ks n = true /\ 0 < P.cellsOf el /\ n * P.cellsOf el <= 16777216 /\ (zeroOf P el).isSome = true) /\ moveKs mvr (elsV P el e os) [] e (thenL c qt rid d ss K (P.cellsOf el))) := nr rfl
def msT (P : Program) (n m : AVal) (K : AVal -> Prop) : Option TypeId -> Prop
 | some el => makeSliceK P (some el) (zeroOf P el) n m K
 | none => False
theorem r_makeSlice2 {c : Ctx} {qt : Bool} {rid : Nat} {e : Env} {K : Env -> Prop} {d : Option Tmp} {ty : TypeId} {ss : List Ins} {t : TypeId} {n m : Operand} :
  regI c qt rid (⟨d, .makeSlice t n m, ty, none⟩ :: ss) e K = msT c.g.P (opV e n) (opV e m) (thenI c qt rid d ss K e) (elemT c.g.P t) := by
 rw [r_makeSlice]
 cases elemT c.g.P t <;> rfl
theorem msT_some {P : Program} {n m : AVal} {K : AVal -> Prop} {el : TypeId} : msT P n m K (some el) = makeSliceK P (some el) (zeroOf P el) n m K := nr rfl
theorem makeSlice_int {P : Program} {el : TypeId} {z : AVal} {n m : Int} {K : AVal -> Prop} : makeSliceK P (some el) (some z) (.lit (.int .i64 n)) (.lit (.int .i64 m)) K = (0 <= n /\ n <= m /\ fits P el m.toNat /\ 0 < z.w /\ K (.lst true (P.cellsOf el) (List.replicate n.toNat z))) := nr rfl
attribute [go_sem] isUp_nil isUp_cons r_buildSlice2 bsT_some r_makeSlice2 msT_some makeSlice_int List.take_zero List.map_nil List.take_nil List.drop_nil
theorem take_lit {α : Type} {n : Nat} {x : α} {xs : List α} : List.take n (x :: xs) = if n = 0 then [] else x :: List.take (n - 1) xs := by
 cases n with
 | zero => simp
 | succ n => simp
theorem take_map_app {α : Type} {f : α -> AVal} {xs : List α} {ys : List AVal} {k : Nat} : List.take (xs.length + k) (xs.map f ++ ys) = xs.map f ++ List.take k ys := by
 have := List.take_length_add_append (l₁ := xs.map f) (l₂ := ys) k
 rwa [List.length_map] at this
theorem noRefs_app {xs ys : List AVal} : noRefs (xs ++ ys) = (noRefs xs && noRefs ys) := by
 simp only [noRefs_all, List.all_append]
theorem flatAs_app : ∀ {xs ys : List AVal}, flatAs (xs ++ ys) = (flatAs xs && flatAs ys)
 | [], ys => by simp [flatAs]
 | x :: xs, ys => by simp only [List.cons_append, flatAs, flatAs_app (xs := xs), Bool.and_assoc]
theorem closedAs_app : ∀ {xs ys : List AVal}, closedAs (xs ++ ys) = (closedAs xs && closedAs ys)
 | [], ys => by simp [closedAs]
 | x :: xs, ys => by simp only [List.cons_append, closedAs, closedAs_app (xs := xs), Bool.and_assoc]
theorem noRefs_rep {n : Nat} {z : AVal} (h : noRef z = true) : noRefs (List.replicate n z) = true := by
 induction n with
 | zero => rfl
 | succ n ih => simp only [List.replicate_succ, noRefs, h, ih, Bool.and_self]
theorem flatAs_rep {n : Nat} {z : AVal} (h : flatA z = true) : flatAs (List.replicate n z) = true := by
 induction n with
 | zero => rfl
 | succ n ih => simp only [List.replicate_succ, flatAs, h, ih, Bool.and_self]
theorem closedAs_rep {n : Nat} {z : AVal} (h : closedA z = true) : closedAs (List.replicate n z) = true := by
 induction n with
 | zero => rfl
 | succ n ih => simp only [List.replicate_succ, closedAs, h, ih, Bool.and_self]
theorem isPtr_ptr {own : Bool} {x : AVal} : isPtr (.ptr own x) = true := nr rfl
theorem isPtr_lst {own : Bool} {sz : Nat} {xs : List AVal} : isPtr (.lst own sz xs) = false := nr rfl
attribute [go_sem] and_self or_self take_lit take_map_app noRefs_app flatAs_app closedAs_app noRefs_rep flatAs_rep closedAs_rep isPtr_ptr isPtr_lst List.map_append List.map_cons
def andO (b : Bool) : Option Bool -> Option Bool
 | some c => some (b && c)
 | none => none
theorem andO_some {b c : Bool} : andO b (some c) = some (b && c) := nr rfl
theorem eqAgg_nil : eqAgg [] [] [] = some true := nr rfl
theorem eqAgg_int {ks : List Nat} {k : IntKind} {a b : Int} {xs ys : List AVal} : eqAgg (0 :: ks) (.lit (.int k a) :: xs) (.lit (.int k b) :: ys) = andO (decide (a = b)) (eqAgg ks xs ys) := by
 have : (a == b) = decide (a = b) := by by_cases h : a = b <;> simp [h]
 simp only [eqAgg, eqLit, if_true, this]
 cases eqAgg ks xs ys <;> rfl
theorem eqAgg_bool {ks : List Nat} {a b : Bool} {xs ys : List AVal} : eqAgg (1 :: ks) (.lit (.bool a) :: xs) (.lit (.bool b) :: ys) = andO (a == b) (eqAgg ks xs ys) := by
 simp only [eqAgg, eqLit]
 cases eqAgg ks xs ys <;> rfl
theorem eqAgg_str {ks : List Nat} {a b : ByteArray} {xs ys : List AVal} : eqAgg (2 :: ks) (.lit (.string a) :: xs) (.lit (.string b) :: ys) = andO (decide (a = b)) (eqAgg ks xs ys) := by
 simp only [eqAgg, eqLit, ba_beq]
 cases eqAgg ks xs ys <;> rfl
attribute [go_sem] andO_some eqAgg_nil eqAgg_int eqAgg_bool eqAgg_str
def cvInt (n : Int) (K : AVal -> Prop) : Option TypeDesc -> Option TypeDesc -> Prop
 | some _, some (.int k) => K (.lit (.int k (k.wrap n)))
 | _, _ => False
theorem cv_int {P : Program} {s d : TypeId} {k : IntKind} {n : Int} {els : Option (Nat × List AVal)} {K : AVal -> Prop} : convertK P s d (.lit (.int k n)) els K = cvInt n K (P.underlying s) (P.underlying d) := by
 simp only [convertK, cvInt]
 rfl
theorem cvInt_some {n : Int} {K : AVal -> Prop} {x : TypeDesc} {k : IntKind} : cvInt n K (some x) (some (.int k)) = K (.lit (.int k (k.wrap n))) := nr rfl
def cvBytes (P : Program) (el : TypeId) (s : ByteArray) (K : AVal -> Prop) : Option TypeDesc -> Prop
 | some (.int .u8) => P.cellsOf el = 1 /\ K (.lst true 1 (bytesA s))
 | _ => False
def cvStr (P : Program) (s : ByteArray) (K : AVal -> Prop) : Option TypeDesc -> Option TypeDesc -> Prop
 | some .string, some .string => K (.lit (.string s))
 | some .string, some (.slice el) => cvBytes P el s K (P.underlying el)
 | _, _ => False
theorem cv_str {P : Program} {s d : TypeId} {v : ByteArray} {els : Option (Nat × List AVal)} {K : AVal -> Prop} : convertK P s d (.lit (.string v)) els K = cvStr P v K (P.underlying s) (P.underlying d) := by
 simp only [convertK, cvStr, cvBytes]
 rfl
theorem cvStr_str {P : Program} {s : ByteArray} {K : AVal -> Prop} : cvStr P s K (some .string) (some .string) = K (.lit (.string s)) := nr rfl
theorem cvStr_bytes {P : Program} {s : ByteArray} {K : AVal -> Prop} {el : TypeId} : cvStr P s K (some .string) (some (.slice el)) = cvBytes P el s K (P.underlying el) := nr rfl
theorem cvBytes_u8 {P : Program} {s : ByteArray} {K : AVal -> Prop} {el : TypeId} : cvBytes P el s K (some (.int .u8)) = (P.cellsOf el = 1 /\ K (.lst true 1 (bytesA s))) := nr rfl
def cvOut (K : AVal -> Prop) : Option TypeDesc -> Option (List UInt8) -> Prop
 | some (.int .u8), some bs => K (.lit (.string ⟨bs.toArray⟩))
 | _, _ => False
def cvLst (P : Program) (K : AVal -> Prop) : Option (Nat × List AVal) -> Option TypeDesc -> Option TypeDesc -> Prop
 | some (1, xs), some (.slice el), some .string => cvOut K (P.underlying el) (strOfA xs)
 | _, _, _ => False
theorem cv_lst {P : Program} {s d : TypeId} {own : Bool} {sz : Nat} {ys : List AVal} {els : Option (Nat × List AVal)} {K : AVal -> Prop} : convertK P s d (.lst own sz ys) els K = cvLst P K els (P.underlying s) (P.underlying d) := by
 simp only [convertK, cvLst, cvOut]
 rfl
theorem cv_href {P : Program} {s d : TypeId} {l : Loc} {sz lo n : Nat} {els : Option (Nat × List AVal)} {K : AVal -> Prop} : convertK P s d (.href l sz lo n) els K = cvLst P K els (P.underlying s) (P.underlying d) := by
 simp only [convertK, cvLst, cvOut]
 rfl
theorem cvLst_some {P : Program} {xs : List AVal} {el : TypeId} {K : AVal -> Prop} : cvLst P K (some (1, xs)) (some (.slice el)) (some .string) = cvOut K (P.underlying el) (strOfA xs) := nr rfl
theorem cvOut_some {bs : List UInt8} {K : AVal -> Prop} : cvOut K (some (.int .u8)) (some bs) = K (.lit (.string ⟨bs.toArray⟩)) := nr rfl
def slStr (s : ByteArray) (K : AVal -> Prop) : Option TypeDesc -> Option Int -> Option Int -> Prop
 | some .string, some l, some h => 0 <= l /\ l <= h /\ h <= s.size /\ K (.lit (.string (s.extract l.toNat h.toNat)))
 | _, _, _ => False
theorem slice_str {P : Program} {t : TypeId} {s : ByteArray} {lo hi : Option AVal} {K : AVal -> Prop} : sliceK P t (.lit (.string s)) lo hi K = slStr s K (P.underlying t) (loI lo) (hiI hi s.size) := by
 simp only [sliceK]
 cases P.underlying t with
 | none => rfl
 | some d =>
  cases d with
  | string => cases loI lo <;> cases hiI hi s.size <;> rfl
  | _ => rfl
theorem slStr_some {s : ByteArray} {l h : Int} {K : AVal -> Prop} : slStr s K (some .string) (some l) (some h) = (0 <= l /\ l <= h /\ h <= s.size /\ K (.lit (.string (s.extract l.toNat h.toNat)))) := nr rfl
def slLst (P : Program) (sz : Nat) (xs : List AVal) (K : AVal -> Prop) : Option TypeId -> Option Int -> Option Int -> Prop
 | some el, some l, some h => P.cellsOf el = sz /\ 0 < sz /\ 0 <= l /\ l <= h /\ h <= xs.length /\ K (.lst false sz ((xs.drop l.toNat).take (h.toNat - l.toNat)))
 | _, _, _ => False
theorem slice_lst {P : Program} {t : TypeId} {sz : Nat} {xs : List AVal} {lo hi : Option AVal} {K : AVal -> Prop} : sliceK P t (.lst false sz xs) lo hi K = slLst P sz xs K (elemT P t) (loI lo) (hiI hi xs.length) := by
 simp only [sliceK]
 cases elemT P t <;> rfl
theorem slLst_some {P : Program} {sz : Nat} {xs : List AVal} {el : TypeId} {l h : Int} {K : AVal -> Prop} : slLst P sz xs K (some el) (some l) (some h) = (P.cellsOf el = sz /\ 0 < sz /\ 0 <= l /\ l <= h /\ h <= xs.length /\ K (.lst false sz ((xs.drop l.toNat).take (h.toNat - l.toNat)))) := nr rfl
def slHref (P : Program) (loc : Loc) (sz lo0 n : Nat) (K : AVal -> Prop) : Option TypeId -> Option Int -> Option Int -> Prop
 | some el, some l, some h => P.cellsOf el = sz /\ 0 < sz /\ 0 <= l /\ l <= h /\ h <= n /\ (l < h -> K (.href loc sz (lo0 + l.toNat) (h.toNat - l.toNat))) /\ (l = h -> K (.lst false sz []))
 | _, _, _ => False
theorem slice_href {P : Program} {t : TypeId} {loc : Loc} {sz lo0 n : Nat} {lo hi : Option AVal} {K : AVal -> Prop} : sliceK P t (.href loc sz lo0 n) lo hi K = slHref P loc sz lo0 n K (elemT P t) (loI lo) (hiI hi n) := by
 simp only [sliceK]
 cases elemT P t <;> rfl
theorem slHref_some {P : Program} {loc : Loc} {sz lo0 n : Nat} {el : TypeId} {l h : Int} {K : AVal -> Prop} : slHref P loc sz lo0 n K (some el) (some l) (some h) = (P.cellsOf el = sz /\ 0 < sz /\ 0 <= l /\ l <= h /\ h <= n /\ (l < h -> K (.href loc sz (lo0 + l.toNat) (h.toNat - l.toNat))) /\ (l = h -> K (.lst false sz []))) := nr rfl
theorem drop_map {α : Type} {f : α -> AVal} {xs : List α} {n : Nat} : List.drop n (xs.map f) = (xs.drop n).map f := by rw [List.map_drop]
theorem take_map {α : Type} {f : α -> AVal} {xs : List α} {n : Nat} : List.take n (xs.map f) = (xs.take n).map f := by rw [List.map_take]
attribute [go_sem] cv_int cvInt_some cv_str cvStr_str cvStr_bytes cvBytes_u8 cv_lst cv_href cvLst_some cvOut_some slice_str slStr_some slice_lst slLst_some slice_href slHref_some drop_map take_map
attribute [go_sem] frzE_mk pickK_true pickK_false mkE_nil' mkE_cons' mapE_nil' mapE_cons' delE_nil' delE_cons' onlyE_nil' onlyE_cons' numbered_nil' numbered_cons' agrees_nil' agrees_cons' argsV_nil' argsV_cons' partsV_nil' partsV_cons' elsV_nil' elsV_cons' fstL_nil' fstL_cons' allEls_nil' allEls_cons' comps_nil' comps_cons' compO_none compO_some dstL_cons' opL_cons' frzL_nil' frzL_cons' draws_nil' draws_cons' okL_nil' okL_cons' lo_none lo_int hi_none hi_int optV_none optV_some okA_lit okA_agg okA_tup okA_lst okA_ptr okA_fn okAs_nil' okAs_cons' litOk_int litOk_str toList_lit
attribute [go_sem] List.contains_cons List.contains_nil List.cons_append List.nil_append List.append_nil and_true true_and and_false false_and or_true true_or or_false false_or not_true_eq_false not_false_eq_true eq_self ne_eq Bool.or_false Bool.false_or Bool.or_true Bool.true_or Bool.and_true Bool.true_and Bool.and_false Bool.false_and Bool.not_true Bool.not_false Bool.false_eq_true Bool.true_eq_false if_true if_false ite_true ite_false decide_true decide_false Nat.zero_add Nat.add_zero List.length_nil List.length_cons List.length_map List.length_append List.all_nil List.all_cons List.any_nil List.any_cons forall_const imp_self implies_true true_implies Option.isSome_some Option.isSome_none Option.isNone_some Option.getD_some List.take_length Bool.not_not Decidable.not_not bnot_dec List.drop_zero
end Go.VS
/- VS: more rules. -/
set_option linter.unusedVariables false
set_option linter.unusedSimpArgs false
namespace Go.VS
theorem tmod_mod {a b : Int} (ha : 0 <= a) (hb : 0 < b) : 0 <= a.tmod b /\ a.tmod b < b := by
 rw [Int.tmod_eq_emod_of_nonneg ha]
 exact ⟨Int.emod_nonneg _ (by omega), Int.emod_lt_of_pos _ hb⟩
theorem strOfA_app {l : List UInt8} {b : UInt8} : strOfA (l.map byteA ++ [.lit (.int .u8 (b.toNat : Int))]) = some (l ++ [b]) := by
 have h : l.map byteA ++ [.lit (.int .u8 (b.toNat : Int))] = (l ++ [b]).map byteA := by simp [byteA]
 rw [h, strOfA_map]
attribute [go_sem] strOfA_app
theorem strOfA_rep {n : Nat} : strOfA (List.replicate n (.lit (.int .u8 0))) = some (List.replicate n 0) := by
 have h : List.replicate n (AVal.lit (.int .u8 0)) = (List.replicate n (0 : UInt8)).map byteA := by simp [List.map_replicate, byteA]
 rw [h, strOfA_map]
attribute [go_sem] strOfA_rep
theorem getD_lit {n : Nat} {x d : AVal} {xs : List AVal} : (x :: xs).getD n d = if n = 0 then x else xs.getD (n - 1) d := by
 cases n with
 | zero => simp
 | succ n => simp
attribute [go_sem] getD_lit
end Go.VS
/- VS: functions whose walk was made elsewhere; an answer that is shared from now on. -/
set_option linter.unusedVariables false
set_option linter.unusedSimpArgs false
namespace Go.VS
open Go.RowKit
theorem enterC {P : Program} {f : FuncId} {fn : Func} (hf : P.funcs[f]? = some fn) (hb : fn.body.isSome = true) (hnm : (fn.name == "runtime.NumGoroutine") = false) (args : Array Value) (w : World) : (callFunc f args).run P w = .ok (.enter f args) w := by
 obtain ⟨code, hc⟩ := Option.isSome_iff_exists.1 hb
 have hp : (program).run P w = .ok P w := rfl
 simp only [callFunc, Sem.run_bind, hp, Result.andThen_ok, hf, hc, Option.isNone_some]
 simp [hnm]
def bareV (v : Value) (y : AVal) : Prop := ∀ (h : Array Obj) (S : Nat -> Prop) (o : Own) (l : Loc), RepV h S o l v y
theorem bareV.lit {v : Value} (h : litOk v) (h1 : isAggV v = false) (h2 : v.cells.toList = [v]) : bareV v (.lit v) := fun _ _ _ _ => .inl (.inr ⟨by rw [h2]; exact .shd (.lit h), by rw [h1]; rfl⟩)
theorem bareV.str {s : ByteArray} (h : s.size <= maxLen) : bareV (.string s) (.lit (.string s)) := .lit h rfl rfl
theorem bareV.int {n : Int} (h : IntKind.i64.min <= n /\ n <= IntKind.i64.max) : bareV (.int .i64 n) (.lit (.int .i64 n)) := .lit h rfl rfl
theorem bareV.bool {b : Bool} : bareV (.bool b) (.lit (.bool b)) := .lit trivial rfl rfl
theorem bareV.ifc {t : TypeId} {v : Value} : bareV (.iface t v) .ifc := fun _ _ _ _ => .inl (.inr ⟨.shd .ifc, rfl⟩)
theorem RepV.one1 {h : Array Obj} {S : Nat -> Prop} {o : Own} {l : Loc} {v : Value} {y : AVal} (r : RepV h S o l v y) (hy : ∀ xs, y ≠ .tup xs) : RepV1 h S o l v y := by
 rcases r with r | ⟨vs, xs, rfl, _⟩
 ·exact r
 ·exact absurd rfl (hy xs)
theorem bareV.tup {vs : List Value} {ys : List AVal} (hl : vs.length = ys.length) (h : ∀ (i : Nat) (v : Value) (y : AVal), vs[i]? = some v -> ys[i]? = some y -> bareV v y /\ ∀ xs, y ≠ .tup xs) : bareV (.tuple vs.toArray) (.tup ys) := fun hp S o l =>
 .inr ⟨vs.toArray, ys, rfl, rfl, by simpa using hl, fun i u x hu hx => by
  have hu' : vs[i]? = some u := by simpa using hu
  exact ((h i u x hu' hx).1 hp S o _).one1 (h i u x hu' hx).2⟩
theorem bareV.two {u v : Value} {x y : AVal} (h1 : bareV u x) (h2 : bareV v y) (n1 : ∀ xs, x ≠ .tup xs) (n2 : ∀ xs, y ≠ .tup xs) : bareV (.tuple #[u, v]) (.tup [x, y]) :=
 bareV.tup (vs := [u, v]) rfl fun i a b ha hb => by
  match i with
  | 0 => simp only [List.getElem?_cons_zero, Option.some.injEq] at ha hb; subst ha hb; exact ⟨h1, n1⟩
  | 1 => simp only [List.getElem?_cons_succ, List.getElem?_cons_zero, Option.some.injEq] at ha hb; subst ha hb; exact ⟨h2, n2⟩
  | i + 2 => simp at ha
theorem VCalls.of_bare {g : Sys} {f : FuncId} {xs : List AVal} {y : AVal} (hent : ∀ args w, (callFunc f args).run g.P w = .ok (.enter f args) w) (hy : noRef y = true)
  (h : ∀ (w : World) (S : Nat -> Prop) (args : Array Value), args.size = xs.length -> g.Gl w -> (∀ b, S b -> b < w.heap.size) -> (∀ (i : Nat) (v : Value) (x : AVal), args[i]? = some v -> xs[i]? = some x -> RepV w.heap S (fun _ => none) ⟨i, []⟩ v x) →
   Calls g.P f args w fun e w' => (∃ v, e = .returned v /\ bareV v y) /\ Below w.heap.size w w') : VCalls g f xs none (fun y' _ => y' = y) := by
 intro w S o args hsz hwo hown hrep
 have ho : o = fun _ => none := by
  funext b
  cases hb : o b with
  | none => rfl
  | some l =>
   have := (hown b l hb).1
   cases this
 subst ho
 have h3 := h w S args hsz hwo.gl (fun b hb => (hwo.sh b hb).2) hrep
 unfold Gives
 rw [hent]
 refine Calls.mono h3 ?_
 rintro e w' ⟨⟨v, rfl, hv⟩, hb⟩
 have hp : ∀ b, b < w.heap.size -> w'.heap[b]? = w.heap[b]? := fun b hb' => hb.block b hb'
 exact ⟨y, .undef, S, fun _ => none, rfl, ⟨fun b m hm => (by cases hm), fun b b' m hm => (by cases hm), fun b m hm => (by cases hm), fun b hb' => ⟨rfl, Nat.lt_of_lt_of_le (hwo.sh b hb').2 hb.size⟩, g.stay w w' (fun b hb' => hp b (Nat.lt_of_lt_of_le hb' hwo.ngs)) hwo.gl, Nat.le_trans hwo.ngs hb.size⟩,
  ⟨hb.os, hb.tape, hb.output, hb.size, fun b hb' _ => ⟨rfl, hp b hb'⟩, fun b hb' => hb', fun b hb' => .inl hb', fun b hb' => .of_eq (hp b hb')⟩, fun b l hl => (by cases hl), hv _ _ _ _, hy, fun i u hi => (by cases hi)⟩
theorem below_growN (w : World) (k : Nat) (os : Array Obj) : Below w.heap.size w (Go.Sort.grow (w.drewN k) os) := by
 refine ⟨rfl, rfl, rfl, by simp [Go.Sort.grow, World.drewN], fun b hb => ?_⟩
 simp only [Go.Sort.grow, World.drewN]
 rw [Array.getElem?_append_left hb]
mutual
theorem noRef_shd : ∀ x : AVal, noRef x = true -> noRef (toShd x) = true
 | .undef, _ => by simp only [toShd, noRef]
 | .lit _, _ => by simp only [toShd, noRef]
 | .ifc, _ => by simp only [toShd, noRef]
 | .agg xs, h => by simp only [noRef] at h; simp only [toShd, noRef, noRefs_shd xs h]
 | .tup xs, h => by simp only [noRef] at h; simp only [toShd, noRef, noRefs_shd xs h]
 | .lst _ _ xs, h => by simp only [noRef] at h; simp only [toShd, noRef, noRefs_shd xs h]
 | .ptr _ x, h => by simp only [noRef] at h; simp only [toShd, noRef, noRef_shd x h]
 | .mp _ _, _ => by simp only [toShd, noRef]
 | .fn _ xs, h => by simp only [noRef] at h; simp only [toShd, noRef, noRefs_shd xs h]
 | .href .., h => by simp [noRef] at h
 | .adr .., h => by simp [noRef] at h
 | .mref _, h => by simp [noRef] at h
theorem noRefs_shd : ∀ xs : List AVal, noRefs xs = true -> noRefs (toShds xs) = true
 | [], _ => by simp only [toShds, noRefs]
 | x :: xs, h => by
  simp only [noRefs, Bool.and_eq_true] at h
  simp only [toShds, noRefs, noRef_shd x h.1, noRefs_shd xs h.2, Bool.and_self]
end
theorem VCalls.shared {g : Sys} {f : FuncId} {xs : List AVal} {Post : AVal -> AVal -> Prop} (h : VCalls g f xs none Post) : VCalls g f xs none fun y _ => ∃ y0 x', Post y0 x' /\ y = toShd y0 := by
 intro w S o args hsz hwo hown hrep
 refine (h w S o args hsz hwo hown hrep).mono ?_
 rintro v w' ⟨y, x', S', o', h1, h2, h3, h4, h5, h6, h7⟩
 have ho : ∀ b, o b = none := fun b => by
  cases hb : o b with
  | none => rfl
  | some l =>
   have := (hown b l hb).1
   cases this
 refine ⟨toShd y, .undef, fun b => S' b \/ o' b ≠ none, fun _ => none, ⟨y, x', h1, rfl⟩, ⟨fun b m hm => (by cases hm), fun b b' m hm => (by cases hm), fun b m hm => (by cases hm), fun b hb => ⟨rfl, ?_⟩, h2.gl, h2.ngs⟩,
  ⟨h3.os, h3.tape, h3.output, h3.size, fun b hb hn => ⟨rfl, (h3.old b hb hn).2⟩, fun b hb => .inl (h3.grow b hb), fun b hb => ?_, h3.shp⟩, fun b l hl => (by cases hl), h5.toShd (fun b hb => .inl hb) h6 (fun b q hq => .inr (by rw [hq]; simp)) _ _, ?_, fun i u hi => (by cases hi)⟩
 ·rcases hb with hb | hb
  ·exact (h2.sh b hb).2
  ·obtain ⟨m, hm⟩ := Option.ne_none_iff_exists'.1 hb
   exact (h2.lt b m hm).1
 ·rcases hb with hb | hb
  ·exact h3.only b hb
  ·by_cases hlt : b < w.heap.size
   ·exact absurd (h3.old b hlt (ho b)).1 hb
   ·exact .inr (.inl (by omega))
 ·exact noRef_shd y h6
end Go.VS
/- VS: interfaces against nil. -/
set_option linter.unusedVariables false
set_option linter.unusedSimpArgs false
namespace Go.VS
variable {P : Program} {t : TypeId} {xo yo : Operand} {K : AVal -> Prop}
def isIfc : Option TypeDesc -> Bool
 | some (.interface _) => true
 | _ => false
theorem b_ifc_eql : binK P .eql t xo yo .ifc (.lit .nilIface) K = (isIfc (P.underlying t) = true /\ K (.lit (.bool false))) := by
 simp only [binK, isIfc]; split <;> split <;> simp_all
theorem b_ifc_neq : binK P .neq t xo yo .ifc (.lit .nilIface) K = (isIfc (P.underlying t) = true /\ K (.lit (.bool true))) := by
 simp only [binK, isIfc]; split <;> split <;> simp_all
theorem b_nil_eql {v : Value} : binK P .eql t xo (.const v) (.lit .nilIface) (.lit .nilIface) K = (isIfc (P.underlying t) = true /\ K (.lit (.bool true))) := by
 simp only [binK, isIfc]; split <;> split <;> simp_all
theorem b_nil_neq {v : Value} : binK P .neq t xo (.const v) (.lit .nilIface) (.lit .nilIface) K = (isIfc (P.underlying t) = true /\ K (.lit (.bool false))) := by
 simp only [binK, isIfc]; split <;> split <;> simp_all
attribute [go_sem] b_ifc_eql b_ifc_neq b_nil_eql b_nil_neq
end Go.VS
/- VS: rules for functions that write into the lists of a parameter, and for calls of them. -/
set_option linter.unusedVariables false
set_option linter.unusedSimpArgs false
namespace Go.VS
def endMC (i : Nat) (Post : AVal -> AVal -> Prop) : AVal -> Env -> Prop := fun y e => endM i Post y e
def endMT (i : Nat) (Post : AVal -> AVal -> Prop) : List AVal -> Env -> Prop := fun ys e => endM i Post (.tup ys) e
theorem endMC_eq {i : Nat} {Post : AVal -> AVal -> Prop} {y : AVal} {e : Env} : endMC i Post y e = (noRef y = true /\ noRef (e i) = true /\ Post y (e i)) := nr rfl
theorem endMT_eq {i : Nat} {Post : AVal -> AVal -> Prop} {ys : List AVal} {e : Env} : endMT i Post ys e = (noRef (.tup ys) = true /\ noRef (e i) = true /\ Post (.tup ys) (e i)) := nr rfl
def retT (c : Ctx) (rs : Array ResultVar) (i : Nat) (Post : AVal -> AVal -> Prop) : Env -> Prop := retG c rs (endM i Post)
def retJM (c : Ctx) (i : Nat) (Post : AVal -> AVal -> Prop) (e : Env) : Option (List AVal) -> Prop
 | none => False
 | some [x] => moveK (retM c) x e (endMC i Post)
 | some xs => xs.all stOk = true /\ moveKs (retM c) xs [] e (endMT i Post)
theorem retT_eq {c : Ctx} {rs : List ResultVar} {i : Nat} {Post : AVal -> AVal -> Prop} {e : Env} : retT c rs.toArray i Post e = retJM c i Post e (retVs c.g.P e rs) := by
 simp only [retT, retG]
 cases retVs c.g.P e rs with
 | none => rfl
 | some xs =>
  match xs with
  | [] => simp [retJM, moveKs, endMT]
  | [x] => rfl
  | x :: y :: zs => simp [retJM, moveKs, endMT]
theorem retJM_one {c : Ctx} {i : Nat} {Post : AVal -> AVal -> Prop} {e : Env} {x : AVal} : retJM c i Post e (some [x]) = moveK (retM c) x e (endMC i Post) := nr rfl
theorem retJM_nil {c : Ctx} {i : Nat} {Post : AVal -> AVal -> Prop} {e : Env} : retJM c i Post e (some []) = endMT i Post [] e := by simp [retJM, moveKs, movesK, moveVs]
theorem retJM_two {c : Ctx} {i : Nat} {Post : AVal -> AVal -> Prop} {e : Env} {x y : AVal} {zs : List AVal} : retJM c i Post e (some (x :: y :: zs)) = ((x :: y :: zs).all stOk = true /\ moveKs (retM c) (x :: y :: zs) [] e (endMT i Post)) := nr rfl
attribute [go_sem] endMC_eq endMT_eq retT_eq retJM_one retJM_nil retJM_two
theorem VMut.go {f : FuncId} {fn : Func} {g : Sys} {nt : Nat} {keep mvs : List Nat} {i : Nat} (pl : Draws) (hf : g.P.funcs[f]? = some fn) (hb : fn.body.isSome = true) (hnm : (fn.name == "runtime.NumGoroutine") = false) (hnt : nt = fn.ntmps)
  (hok : okCode ⟨g, nt, keep, [i], mvs⟩ pl (Func.code fn) = true) {xs : List AVal}
  (hk : keep.contains i = true) (hk2 : Nat.blt i xs.length = true) (hl : Nat.ble xs.length nt = true) {Post : AVal -> AVal -> Prop}
  (h : okAs xs -> vm ⟨g, nt, keep, [i], mvs⟩ pl (Func.code fn) (fQ ⟨g, nt, keep, [i], mvs⟩ pl (retT ⟨g, nt, keep, [i], mvs⟩ fn.results i Post) []) (mkE (numbered 0 xs))) : VMut g f xs i Post := by
 refine VMut.of ⟨g, nt, keep, [i], mvs⟩ hf hb hnm hnt rfl ⟨hk, Nat.le_of_ble_eq_true hk2⟩ hl ?_
 intro w0 S0 o0 cargs a w S ow s hh
 refine ((vm_sound _ _ _ hok (h (okAs_args s))).mono fun x e hx => ?_) w0 S0 o0 cargs a w S ow s hh
 cases x with
 | normal => simp only [fQ] at hx; exact hx
 | exit id => simp only [fQ] at hx
 | ret => simp only [fQ] at hx; exact hx
def callW (g : Sys) (f : FuncId) (i : Nat) (as : Option (List AVal)) (K : AVal -> AVal -> Prop) : Prop :=
 ∃ (bs : List AVal) (Post : AVal -> AVal -> Prop), as = some bs /\ VMut g f bs i Post /\ ∀ y x', Post y x' -> K y x'
theorem callW.eq {g : Sys} {f : FuncId} {i : Nat} {bs : List AVal} {v u : AVal} {K : AVal -> AVal -> Prop} (h : VMut g f bs i (fun y x' => y = v /\ x' = u)) (hk : K v u) : callW g f i (some bs) K := ⟨bs, _, rfl, h, fun y x' hp => by rw [hp.1, hp.2]; exact hk⟩
def giveK (r : Nat) (p : List Step) (x : AVal) (K : AVal -> Env -> Prop) (e : Env) : AVal -> AVal -> Prop := fun y x' => copyOut ⟨r, p⟩ x' = copyOut ⟨r, p⟩ x /\ K y (setN ⟨r, p⟩ x' (below ⟨r, p⟩) e)
theorem giveK_eq {r : Nat} {p : List Step} {x y x' : AVal} {K : AVal -> Env -> Prop} {e : Env} : giveK r p x K e y x' = (copyOut ⟨r, p⟩ x' = copyOut ⟨r, p⟩ x /\ K y (setN ⟨r, p⟩ x' (below ⟨r, p⟩) e)) := nr rfl
attribute [go_sem] giveK_eq
theorem call_give {c : Ctx} {qt : Bool} {f : FuncId} {bs : List AVal} {e : Env} {K : AVal -> Env -> Prop} (i r : Nat) (p : List Step) {x : AVal} (hq : qt = false) (h0 : Nat.blt r c.nt = true) (h00 : c.keep.contains r = true) (h2 : getP p (e r) = some x) (h1 : bs[i]? = some (copyOut ⟨r, p⟩ x))
  (h3 : topOk x = true) (h4 : hasOwn x = true) (h5 : noRef x = true) (h : callW c.g f i (setO i x (snaps (fun _ => true) e (bs.set i .undef))) (giveK r p x K e)) : callK c qt f bs e K := by
 obtain ⟨as, Post, h6, h7, h8⟩ := h
 cases hs : snaps (fun _ => true) e (bs.set i .undef) with
 | none => rw [hs] at h6; cases h6
 | some as0 =>
  rw [hs] at h6
  cases h6
  exact .inr (.inl ⟨hq, i, ⟨r, p⟩, x, as0, Post, Nat.le_of_ble_eq_true h0, h00, h7, h1, h2, h3, h4, h5, hs, h8⟩)
theorem topOk_int {k : IntKind} {n : Int} : topOk (.lit (.int k n)) = true := by simp only [topOk]
theorem topOk_bool {b : Bool} : topOk (.lit (.bool b)) = true := by simp only [topOk]
theorem topOk_str {s : ByteArray} : topOk (.lit (.string s)) = true := by simp only [topOk]
theorem topOk_lst {sz : Nat} {xs : List AVal} : topOk (.lst true sz xs) = true := by simp only [topOk]
theorem topOk_agg {xs : List AVal} : topOk (.agg xs) = topOks xs := by simp only [topOk]
theorem topOks_nil : topOks [] = true := by simp only [topOks]
theorem topOks_cons {x : AVal} {xs : List AVal} : topOks (x :: xs) = (topOk x && topOks xs) := by simp only [topOks]
theorem hasOwn_lit {v : Value} : hasOwn (.lit v) = false := by simp only [hasOwn]
theorem hasOwn_lst {sz : Nat} {xs : List AVal} : hasOwn (.lst true sz xs) = true := by simp only [hasOwn]
theorem hasOwn_agg {xs : List AVal} : hasOwn (.agg xs) = hasOwns xs := by simp only [hasOwn]
theorem hasOwns_nil : hasOwns [] = false := by simp only [hasOwns]
theorem hasOwns_cons {x : AVal} {xs : List AVal} : hasOwns (x :: xs) = (hasOwn x || hasOwns xs) := by simp only [hasOwns]
attribute [go_sem] topOk_int topOk_bool topOk_str topOk_lst topOk_agg topOks_nil topOks_cons hasOwn_lit hasOwn_lst hasOwn_agg hasOwns_nil hasOwns_cons AVal.href.injEq Loc.mk.injEq
end Go.VS
/- VS: rules for elements that hold lists of their own. -/
set_option linter.unusedVariables false
set_option linter.unusedSimpArgs false
namespace Go.VS
theorem nodeAt_mod {α : Type} [Inhabited α] {f : α -> AVal} {g : AVal -> AVal} {i : Nat} {fs : List Nat} {sz : Nat} {xs : List α} {K : Option (Nat × AVal) -> Prop} (hK : K none = False) :
  K (nodeAt i fs (.lst true sz ((xs.map f).modify i g))) = (i < xs.length /\ K (elemAt i sz fs (g (f (xs.getD i default))))) := by
 by_cases h : i < xs.length
 ·have hx : ((xs.map f).modify i g)[i]? = some (g (f (xs.getD i default))) := by
   rw [List.getElem?_modify]
   simp [h]
  rw [nodeAt_at hx]
  simp [h]
 ·have hx : ((xs.map f).modify i g)[i]? = none := by simp; omega
  rw [nodeAt_out hx, hK]
  simp [h]
section
variable {c : Ctx} {rid : Nat} {ty : TypeId} {v : Operand} {l : Loc} {i : Nat} {fs : List Nat} {off : Nat} {e e1 : Env} {K : Env -> Prop} {node y y' : AVal}
theorem stEnd_mod {α : Type} [Inhabited α] {f : α -> AVal} {g : AVal -> AVal} {sz : Nat} {xs : List α} : stEnd c ty l i fs off y' e K node (nodeAt i fs (.lst true sz ((xs.map f).modify i g))) = (i < xs.length /\ stEnd c ty l i fs off y' e K node (elemAt i sz fs (g (f (xs.getD i default))))) := nodeAt_mod rfl
theorem mod_mod {g : AVal -> AVal} {xs : List AVal} : (xs.modify i g).modify i (putF [] y) = xs.modify i (putF [] y) := by
 apply List.ext_getElem?
 intro j
 simp only [List.getElem?_modify]
 by_cases h : i = j
 ·subst h
  simp only [if_true]
  cases xs[i]? <;> simp [putF]
 ·simp [h]
end
attribute [go_sem] stEnd_mod mod_mod
end Go.VS
/- VS: arithmetic of literals, as rules of the machine. -/
namespace Go.VS
attribute [go_sem] Nat.reduceAdd Nat.reduceSub Nat.reduceMul Nat.reduceEqDiff Nat.reduceBEq Nat.reduceBNe Nat.reduceLT Nat.reduceLeDiff Int.reduceNeg Int.reduceAdd Int.reduceSub Int.reduceMul Int.reduceEq Int.reduceLT Int.reduceLE Int.reduceToNat reduceIte reduceCtorEq
end Go.VS
/- VS: maps are moved. -/
set_option linter.unusedVariables false
set_option linter.unusedSimpArgs false
namespace Go.VS
def mvMref (l : Loc) (e : Env) (K : AVal -> Env -> Prop) : Bool -> Option AVal -> Prop
 | true, some (.mp true es) => K (.mp true es) (takeE l e)
 | true, _ => False
 | false, _ => K (.mref l) e
section
variable {mvr : Nat -> Bool} {e : Env} {K : AVal -> Env -> Prop} {l : Loc}
theorem mv_mref : moveK mvr (.mref l) e K = mvMref l e K (mvr l.r) (getE e l) := by
 simp only [moveK, moveV]
 cases mvr l.r
 ·rfl
 ·simp only [if_true]
  cases getE e l with
  | none => rfl
  | some y =>
   cases y with
   | mp own es => cases own <;> rfl
   | _ => rfl
theorem mv_mpS {es : List (Value × Value)} : moveK mvr (.mp false es) e K = K (.mp false es) e := by simp only [moveK, moveV]
theorem mvMref_tt {es : List (Value × Value)} : mvMref l e K true (some (.mp true es)) = K (.mp true es) (takeE l e) := nr rfl
theorem mvMref_ff {q : Option AVal} : mvMref l e K false q = K (.mref l) e := by
 cases q <;> rfl
end
attribute [go_sem] mv_mref mv_mpS mvMref_tt mvMref_ff
end Go.VS
/- VS: functions whose walk was made elsewhere and that answer with a new list of texts. -/
set_option linter.unusedVariables false
set_option linter.unusedSimpArgs false
namespace Go.VS
open Go.RowKit
end Go.VS
/- VS: a call that writes through a pointer anywhere, with other values lent. -/
set_option linter.unusedVariables false
set_option linter.unusedSimpArgs false
namespace Go.VS
theorem putP_putP : ∀ (p : List Step) (a b x : AVal), putP p a (putP p b x) = putP p a x
 | [], a, b, x => rfl
 | .fld k :: p, a, b, x => by
  have h : (putP p a ∘ putP p b) = putP p a := funext fun y => putP_putP p a b y
  cases x <;> simp only [putP, List.modify_modify_eq, h]
 | .idx i :: p, a, b, x => by
  have h : (putP p a ∘ putP p b) = putP p a := funext fun y => putP_putP p a b y
  cases x <;> try (cases i <;> simp only [putP, List.modify_modify_eq, h]; done)
  case ptr own x => cases i <;> simp only [putP, putP_putP p a b x]
def callM2 (lend : Bool) (g : Sys) (f : FuncId) (i : Nat) (as : Option (List AVal)) (K : AVal -> AVal -> Prop) : Prop :=
 ∃ (bs : List AVal) (Post : AVal -> AVal -> Prop), as = some bs /\ VCalls g f bs (some i) Post /\ ∀ y x', Post y x' -> (lend = true -> closedA y = true /\ closedA x' = true) /\ K y x'
def mutL (l : Loc) (K : AVal -> Env -> Prop) (e : Env) : AVal -> AVal -> Prop := fun y x' => K y (setN l (.ptr true x') (below (l.idx 0)) e)
theorem mutL_eq {l : Loc} {K : AVal -> Env -> Prop} {e : Env} {y x' : AVal} : mutL l K e y x' = K y (setN l (.ptr true x') (below (l.idx 0)) e) := nr rfl
theorem callM2.eq {lend : Bool} {g : Sys} {f : FuncId} {i : Nat} {bs : List AVal} {v u : AVal} {K : AVal -> AVal -> Prop} (h : VCalls g f bs (some i) (fun y x' => y = v /\ x' = u)) (hc : lend = true -> closedA v = true /\ closedA u = true) (hk : K v u) : callM2 lend g f i (some bs) K :=
 ⟨bs, _, rfl, h, fun y x' hp => by rw [hp.1, hp.2]; exact ⟨hc, hk⟩⟩
def badL (lend : Bool) (l : Loc) : Loc -> Bool := fun l' => !lend || near l l'
theorem badL_t {r r' : Nat} {p p' : List Step} : badL true ⟨r, p⟩ ⟨r', p'⟩ = (r == r' && (fuzzy p p' || fuzzy p' p)) := by simp [badL, near]
theorem badL_f {l l' : Loc} : badL false l l' = true := by simp [badL]
theorem call_mutL {c : Ctx} {qt : Bool} {f : FuncId} {bs : List AVal} {e : Env} {K : AVal -> Env -> Prop} (lend : Bool) (i : Nat) (l : Loc) {x : AVal} (hq : qt = false) (h1 : bs[i]? = some (.adr l 0 [] 0)) (h2 : getE e l = some (.ptr true x)) (h3 : noRef x = true)
  (h : callM2 lend c.g f i (setO i (.ptr true x) (snaps (badL lend l) e (bs.set i .undef))) (mutL l K e)) : callK c qt f bs e K := by
 obtain ⟨as, Post, h4, h5, h6⟩ := h
 cases hs : snaps (badL lend l) e (bs.set i .undef) with
 | none => rw [hs] at h4; cases h4
 | some as0 =>
  rw [hs] at h4
  cases h4
  refine .inl ⟨lend, some i, _, Post, h5, hq, l, x, as0, h1, h2, h3, hs, rfl, fun y x' hp => ⟨(h6 y x' hp).1, ?_⟩⟩
  have := (h6 y x' hp).2
  have he : setAt0 l 0 [] x' (setAt l 0 [] (killP (below (Loc.idx l 0)) (blank x)) (below (Loc.idx l 0)) e) = setN l (.ptr true x') (below (l.idx 0)) e := by
   have e1 : setAt l 0 [] (killP (below (Loc.idx l 0)) (blank x)) (below (Loc.idx l 0)) e = fun r => if r = l.r then putP l.p (.ptr true (killP (below (Loc.idx l 0)) (blank x))) (killP (below (Loc.idx l 0)) (e r)) else killP (below (Loc.idx l 0)) (e r) := by
    funext r
    simp only [setAt, h2, nodePut, putF]
   have hg2 : ∃ y2, getP l.p (killP (below (Loc.idx l 0)) (e l.r)) = some y2 := by
    unfold getE at h2
    exact getP_killP_some h2
   obtain ⟨y2, hg2⟩ := hg2
   have hg3 : getE (fun r => if r = l.r then putP l.p (.ptr true (killP (below (Loc.idx l 0)) (blank x))) (killP (below (Loc.idx l 0)) (e r)) else killP (below (Loc.idx l 0)) (e r)) l = some (.ptr true (killP (below (Loc.idx l 0)) (blank x))) := by
    simp only [getE, if_true]
    exact getP_putP_some hg2
   rw [e1]
   funext r
   simp only [setAt0, hg3, nodePut0, putF, setN]
   split
   ·rw [putP_putP]
   ·rfl
  rw [mutL_eq] at this
  rw [he]
  exact this
def callE (lend : Bool) (g : Sys) (f : FuncId) (i k sz : Nat) (xs : List AVal) (as : Option (List AVal)) (K : AVal -> List AVal -> Prop) : Prop :=
 ∃ (bs : List AVal) (Post : AVal -> List AVal -> Prop), as = some bs /\ VElem g f bs i k sz xs Post /\ ∀ y xs', Post y xs' -> (lend = true -> closedA y = true /\ closedAs xs' = true) /\ K y xs'
theorem callE.eq {lend : Bool} {g : Sys} {f : FuncId} {i k sz : Nat} {xs bs : List AVal} {v : AVal} {us : List AVal} {K : AVal -> List AVal -> Prop} (h : VElem g f bs i k sz xs (fun y xs' => y = v /\ xs' = us)) (hc : lend = true -> closedA v = true /\ closedAs us = true) (hk : K v us) : callE lend g f i k sz xs (some bs) K :=
 ⟨bs, _, rfl, h, fun y x' hp => by rw [hp.1, hp.2]; exact ⟨hc, hk⟩⟩
def elL (l : Loc) (sz : Nat) (K : AVal -> Env -> Prop) (e : Env) : AVal -> List AVal -> Prop := fun y xs' => K y (setN l (.lst true sz xs') (below (l.idx 0)) e)
theorem elL_eq {l : Loc} {sz : Nat} {K : AVal -> Env -> Prop} {e : Env} {y : AVal} {xs' : List AVal} : elL l sz K e y xs' = K y (setN l (.lst true sz xs') (below (l.idx 0)) e) := nr rfl
attribute [go_sem] elL_eq
attribute [go_sem] mutL_eq badL_t badL_f
end Go.VS
/- VS: the list behind an environment, put in order. -/
set_option linter.unusedSimpArgs false
set_option linter.unusedVariables false
namespace Go.VS
def insL (k : Nat) (x : AVal) : List (Nat × AVal) -> List (Nat × AVal)
 | [] => [(k, x)]
 | (j, y) :: l => if k < j then (k, x) :: (j, y) :: l else if j = k then (k, x) :: l else (j, y) :: insL k x l
theorem insL_cons {k j : Nat} {x y : AVal} {l : List (Nat × AVal)} : insL k x ((j, y) :: l) = if k < j then (k, x) :: (j, y) :: l else if j = k then (k, x) :: l else (j, y) :: insL k x l := rfl
theorem mkE_ins (k : Nat) (x : AVal) : ∀ (l : List (Nat × AVal)) (r : Nat), mkE (insL k x l) r = if r = k then x else mkE l r
 | [], r => rfl
 | (j, y) :: l, r => by
  rw [insL_cons]
  split
  ·rfl
  ·rename_i h
   split
   ·rename_i h1
    subst h1
    rw [mkE_cons, mkE_cons]
    split <;> rfl
   ·rename_i h1
    rw [mkE_cons, mkE_cons, mkE_ins k x l r]
    by_cases h2 : r = j
    ·subst h2
     rw [if_pos rfl, if_neg h1, if_pos rfl]
    ·rw [if_neg h2, if_neg h2]
def dropU : List (Nat × AVal) -> List (Nat × AVal)
 | [] => []
 | (k, x) :: l => match x with
  | .undef => delE k (dropU l)
  | x => insL k x (dropU l)
theorem mkE_delA (k : Nat) : ∀ (l : List (Nat × AVal)) (r : Nat), mkE (delE k l) r = if r = k then .undef else mkE l r
 | [], r => by simp [delE, mkE]
 | (j, y) :: l, r => by
  by_cases hj : j = k
  ·subst hj
   rw [show delE j ((j, y) :: l) = delE j l from if_pos rfl, mkE_delA j l r, mkE_cons]
   split <;> rfl
  ·rw [show delE k ((j, y) :: l) = (j, y) :: delE k l from if_neg hj, mkE_cons, mkE_cons, mkE_delA k l r]
   by_cases h2 : r = j
   ·subst h2
    rw [if_pos rfl, if_neg hj, if_pos rfl]
   ·rw [if_neg h2, if_neg h2]
theorem mkE_dropU : ∀ (l : List (Nat × AVal)), mkE (dropU l) = mkE l
 | [] => rfl
 | (k, x) :: l => by
  funext r
  unfold dropU
  split
  ·rw [mkE_delA, mkE_cons, mkE_dropU l]
  ·rw [mkE_ins, mkE_cons, mkE_dropU l]
theorem mkE_perm {l1 l2 : List (Nat × AVal)} (h : dropU l1 = dropU l2) : mkE l1 = mkE l2 := by
 rw [<- mkE_dropU l2, <- h, mkE_dropU l1]
theorem draw_mk {c : Ctx} {pl : Draws} {R : Env -> Prop} {fs : List Frame} {e : Env} {id : Nat} {ops : List Oper} {qt : Bool} {p : Plan} {L : List (Nat × AVal)} (h1 : regQ c qt id ops p e fun e1 => restrict c e1 = mkE L) (h2 : fQ c pl R fs .normal (mkE L)) : drawK c pl R fs id ops e (some (.ex qt p)) :=
 draw_ex (fun E => E = mkE L) h1 (forall_eq_mkE h2)
end Go.VS
/- VS: functions that take a list, and calls of them: the machine's rules. -/
set_option linter.unusedVariables false
set_option linter.unusedSimpArgs false
namespace Go.VS
theorem VTake.go {f : FuncId} {fn : Func} {g : Sys} {nt : Nat} {keep mvs : List Nat} {i sz : Nat} (pl : Draws) (hf : g.P.funcs[f]? = some fn) (hb : fn.body.isSome = true) (hnm : (fn.name == "runtime.NumGoroutine") = false) (hnt : nt = fn.ntmps)
  (hok : okCode ⟨g, nt, keep, [], mvs⟩ pl (Func.code fn) = true) {as xs : List AVal} (hnx : noRefs xs = true)
  (hk : keep.contains i = true) (hk2 : Nat.blt i as.length = true) (hl : Nat.ble as.length nt = true) {Post : AVal -> Prop}
  (h : okAs (as.set i (.lst true sz xs)) -> vm ⟨g, nt, keep, [], mvs⟩ pl (Func.code fn) (fQ ⟨g, nt, keep, [], mvs⟩ pl (retT ⟨g, nt, keep, [], mvs⟩ fn.results i (fun y _ => Post y)) []) (mkE (numbered 0 (as.set i (.lst true sz xs))))) : VTake g f as i sz xs Post := by
 refine VTake.of ⟨g, nt, keep, [], mvs⟩ hf hb hnm hnt hnx rfl ⟨hk, Nat.le_of_ble_eq_true hk2⟩ hl ?_
 intro w0 S0 o0 cargs a w S ow s hh
 refine ((vm_sound _ _ _ hok (h (okAs_args s))).mono fun x e hx => ?_) w0 S0 o0 cargs a w S ow s hh
 cases x with
 | normal => simp only [fQ] at hx; exact hx
 | exit id => simp only [fQ] at hx
 | ret => simp only [fQ] at hx; exact hx
def callD (lend : Bool) (g : Sys) (f : FuncId) (i sz : Nat) (xs : List AVal) (as : Option (List AVal)) (K : AVal -> Prop) : Prop :=
 ∃ (bs : List AVal) (Post : AVal -> Prop), as = some bs /\ VTake g f bs i sz xs Post /\ ∀ y, Post y -> (lend = true -> closedA y = true) /\ K y
theorem callD.eq {lend : Bool} {g : Sys} {f : FuncId} {i sz : Nat} {xs bs : List AVal} {v : AVal} {K : AVal -> Prop} (h : VTake g f bs i sz xs (fun y => y = v)) (hc : closedA v = true) (hk : K v) : callD lend g f i sz xs (some bs) K :=
 ⟨bs, _, rfl, h, fun y hp => by rw [hp]; exact ⟨fun _ => hc, hk⟩⟩
def tkK (r : Nat) (K : AVal -> Env -> Prop) (e : Env) : AVal -> Prop := fun y => K y (setN ⟨r, []⟩ .undef (below ⟨r, []⟩) e)
theorem tkK_eq {r : Nat} {K : AVal -> Env -> Prop} {e : Env} {y : AVal} : tkK r K e y = K y (setN ⟨r, []⟩ .undef (below ⟨r, []⟩) e) := nr rfl
theorem call_tk {c : Ctx} {qt : Bool} {f : FuncId} {bs : List AVal} {e : Env} {K : AVal -> Env -> Prop} (lend : Bool) (i r : Nat) {sz : Nat} {xs : List AVal} (hq : qt = false) (h0 : Nat.blt r c.nt = true) (h00 : c.keep.contains r = true)
  (h2 : e r = .lst true sz xs) (h1 : bs[i]? = some (.href ⟨r, []⟩ sz 0 xs.length))
  (h : callD lend c.g f i sz xs (snaps (badL lend ⟨r, []⟩) e (bs.set i .undef)) (tkK r K e)) : callK c qt f bs e K := by
 obtain ⟨as0, Post, h4, h5, h6⟩ := h
 have hb : badL lend ⟨r, []⟩ = fun l' => !lend || l'.r == r := by
  funext l'
  cases l'
  simp [badL, near, fuzzy, Bool.beq_comm, eq_comm]
 rw [hb] at h4
 refine .inr (.inr (.inr ⟨hq, lend, i, r, sz, xs, as0, Post, Nat.le_of_ble_eq_true h0, h00, h1, h2, h4, h5, fun y hp => ⟨(h6 y hp).1, ?_⟩⟩))
 have := (h6 y hp).2
 have he : setN ⟨r, []⟩ .undef (below ⟨r, []⟩) e = fun q => if q = r then .undef else killP (fun l => l.r == r) (e q) := by
  funext q
  have hbl : below ⟨r, []⟩ = fun l : Loc => l.r == r := by
   funext l'
   cases l'
   simp [below, fuzzy]
  simp only [setN, putP, hbl]
 unfold tkK at this
 rw [he] at this
 exact this
attribute [go_sem] tkK_eq
end Go.VS
