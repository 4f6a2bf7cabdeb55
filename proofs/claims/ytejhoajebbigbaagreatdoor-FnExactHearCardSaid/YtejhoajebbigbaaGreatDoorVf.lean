/- VS: the library's functions, by the contracts of the shelf. -/
import Derived.Test.YtejhoajebbigbaaGreatDoorVt
import Derived.Test.YtejhoajebbigbaaGreatDoorVn
import Derived.Lib.ItoaLen
import Derived.Test.YtejhoajebbigbaaGreatDoorShelf
set_option linter.unusedSimpArgs false
set_option linter.unusedVariables false
open Go.Proofs
set_option maxRecDepth 20000
namespace Go.VS
theorem byteA_eq {b : UInt8} : byteA b = .lit (.int .u8 b.toNat) := nr rfl
attribute [go_sem] byteA_eq
theorem f77_at : gz.P.funcs[77]? = some Tryz.f77 := by
 have h : Tryz.prog.funcs[77]? = some Tryz.f77 := by kernel_rfl
 exact h
theorem f60_at : gz.P.funcs[60]? = some Tryz.f60 := by
 have h : Tryz.prog.funcs[60]? = some Tryz.f60 := by kernel_rfl
 exact h
theorem f100_at : gz.P.funcs[100]? = some Tryz.f100 := by
 have h : Tryz.prog.funcs[100]? = some Tryz.f100 := by kernel_rfl
 exact h
theorem ok77 (a b d : Int) : VCalls gz 77 [.lit (.int .i64 a), .lit (.int .i64 b), .lit (.int .i64 d)] none (fun y _ => y = .lit (.bool (decide (b <= a /\ a <= d)))) := by
 refine VCalls.go (nt := 15) (keep := [0, 1, 2, 6]) (muts := []) (mvs := []) [] f77_at rfl (by kernel_rfl) rfl (by kernel_rfl) rfl (fun i h => by cases h) rfl ?_
 intro hok
 simp only [go_sem] at hok
 simp only [Tryz.f77, Func.code, Option.getD_some]
 simp only [go_sem]
 first | refine gj_ndec (fun h => ?_) (fun h => ?_) | refine gj_dec (fun h => ?_) (fun h => ?_) | refine gj_nbool (fun h => ?_) (fun h => ?_) | refine gj_bool (fun h => ?_) (fun h => ?_)
 ·simp only [go_sem, h]
 ·simp only [go_sem, h]
theorem ok60 (a b d : Int) : VCalls gz 60 [.lit (.int .i64 a), .lit (.int .i64 b), .lit (.int .i64 d)] none (fun y _ => y = .lit (.bool (decide (b <= a /\ a <= d)))) := by
 refine VCalls.go (nt := 15) (keep := [0, 1, 2, 6]) (muts := []) (mvs := []) [] f60_at rfl (by kernel_rfl) rfl (by kernel_rfl) rfl (fun i h => by cases h) rfl ?_
 intro hok
 simp only [go_sem] at hok
 simp only [Tryz.f60, Func.code, Option.getD_some]
 simp only [go_sem]
 first | refine gj_ndec (fun h => ?_) (fun h => ?_) | refine gj_dec (fun h => ?_) (fun h => ?_) | refine gj_nbool (fun h => ?_) (fun h => ?_) | refine gj_bool (fun h => ?_) (fun h => ?_)
 ·simp only [go_sem, h]
 ·simp only [go_sem, h]
theorem ok100 (a b : Int) : VCalls gz 100 [.lit (.int .i64 a), .lit (.int .i64 b)] none (fun y _ => y = .lit (.int .i64 (if b < a then a else b))) := by
 refine VCalls.go (nt := 10) (keep := [0, 1, 4, 7]) (muts := []) (mvs := []) [] f100_at rfl (by kernel_rfl) rfl (by kernel_rfl) rfl (fun i h => by cases h) rfl ?_
 intro hok
 simp only [go_sem] at hok
 simp only [Tryz.f100, Func.code, Option.getD_some]
 simp only [go_sem]
 first | refine branch_ndec (fun h => ?_) (fun h => ?_) | refine branch_dec (fun h => ?_) (fun h => ?_) | refine branch_nbool (fun h => ?_) (fun h => ?_) | refine branch_split (fun h => ?_) (fun h => ?_)
 ·simp only [go_sem, h]
 ·simp only [go_sem, h]
end Go.VS
set_option linter.unusedSimpArgs false
set_option linter.unusedVariables false
open Go.Proofs
set_option maxRecDepth 20000
namespace Go.VS
def strA (s : ByteArray) : AVal := .lit (.string s)
structure Patch where
 place : Int
 text : ByteArray
 deriving DecidableEq
instance : Inhabited Patch := ⟨⟨0, ByteArray.empty⟩⟩
def Patch.enc (p : Patch) : AVal := .agg [.lit (.int .i64 p.place), .lit (.string p.text)]
structure Dev where
 secs : List ByteArray
 late : List Patch
def Dev.enc (own : Bool) (d : Dev) : AVal := .agg [.lst own 1 (d.secs.map strA), .lst own 2 (d.late.map Patch.enc)]
theorem strA_eq {s : ByteArray} : strA s = .lit (.string s) := nr rfl
theorem Patch.enc_eq {p : Patch} : Patch.enc p = .agg [.lit (.int .i64 p.place), .lit (.string p.text)] := nr rfl
theorem Dev.enc_eq {own : Bool} {d : Dev} : Dev.enc own d = .agg [.lst own 1 (d.secs.map strA), .lst own 2 (d.late.map Patch.enc)] := nr rfl
attribute [go_sem] strA_eq Patch.enc_eq Dev.enc_eq
theorem f151_at : gz.P.funcs[151]? = some Tryz.f151 := by
 have h : Tryz.prog.funcs[151]? = some Tryz.f151 := by kernel_rfl
 exact h
theorem f133_at : gz.P.funcs[133]? = some Tryz.f133 := by
 have h : Tryz.prog.funcs[133]? = some Tryz.f133 := by kernel_rfl
 exact h
def Dev.fits (d : Dev) (a : Int) (t : ByteArray) : Bool := decide (0 <= a /\ a <= (d.secs.length : Int) - 1) && decide ((t.size : Int) <= 400)
def idxOf {α : Type} (p : α -> Bool) (xs : List α) : Int := if xs.any p = true then (xs.findIdx p : Int) else -1
theorem idxOf_hit {α : Type} {p : α -> Bool} {xs : List α} {i : Nat} (h : ∀ x ∈ xs.take i, p x = false) (hi : i < xs.length) (hp : p xs[i] = true) : idxOf p xs = i := by
 have e : xs = xs.take i ++ xs[i] :: xs.drop (i + 1) := by rw [<- List.drop_eq_getElem_cons hi, List.take_append_drop]
 have h1 : xs.any p = true := List.any_eq_true.2 ⟨_, List.getElem_mem hi, hp⟩
 simp only [idxOf, h1, if_true]
 congr 1
 apply (List.findIdx_eq hi).2
 refine ⟨hp, fun j hj => ?_⟩
 refine h _ ?_
 rw [List.mem_take_iff_getElem]
 exact ⟨j, by omega, rfl⟩
theorem idxOf_none {α : Type} {p : α -> Bool} {xs : List α} (h : ∀ x ∈ xs, p x = false) : idxOf p xs = -1 := by
 have h1 : xs.any p = false := List.any_eq_false.2 fun x hx => by simp [h x hx]
 simp only [idxOf, h1, Bool.false_eq_true, if_false]
theorem idxOf_nonneg {α : Type} {p : α -> Bool} {xs : List α} : (0 <= idxOf p xs) ↔ xs.any p = true := by
 unfold idxOf
 split
 ·rename_i h
  simp only [h, iff_true]
  omega
 ·rename_i h
  simp only [h]
  simp
theorem ok151 (xs : List ByteArray) (f : Nat) (caps : List AVal) (p : ByteArray -> Bool) (hc : shdAs caps = true) (hg : caps.all (fun x => !isAggA x) = true) (hf : ∀ x ∈ xs, VCalls gz f (strA x :: caps) none (fun y _ => y = .lit (.bool (p x)))) :
  VCalls gz 151 [.lst false 1 (xs.map strA), .fn f caps] none (fun y _ => y = .lit (.int .i64 (idxOf p xs))) := by
 refine VCalls.go (nt := 19) (keep := [0, 1, 4, 5, 7, 8, 9, 16]) (muts := []) (mvs := []) [] f151_at rfl (by kernel_rfl) rfl (by kernel_rfl) rfl (fun i h => by cases h) rfl ?_
 intro hok
 simp only [go_sem] at hok
 simp only [Tryz.f151, Func.code, Option.getD_some]
 simp only [go_sem]
 simp only [go_sem, shds_kill _ hc, shds_copy _ _ _ hc]
 intro hl
 refine vm_loopK (α := Nat) (fun i => [(0, .lst false 1 (xs.map strA)), (1, .fn f caps), (4, .lit (.int .i64 0)), (7, .lit (.int .i64 xs.length)), (8, .lit (.int .i64 i))]) (fun i => i <= xs.length /\ ∀ x ∈ xs.take i, p x = false) (fun i => xs.length - i) 0 ?_ ⟨by omega, by simp⟩ (by kernel_rfl) (fun _ => rfl) ?_
 ·simp only [go_sem]
  trivial
 ·intro i hi _
  simp only [go_sem]
  first | refine branch_ndec (fun h => ?_) (fun h => ?_) | refine branch_dec (fun h => ?_) (fun h => ?_) | refine branch_nbool (fun h => ?_) (fun h => ?_) | refine branch_split (fun h => ?_) (fun h => ?_)
  ·have hlt : i < xs.length := by omega
   simp only [go_sem, shds_kill _ hc, shds_copy _ _ _ hc]
   refine ⟨by omega, by omega, hlt, hg, ?_⟩
   refine call_lend ?_
   simp only [go_sem, shds_snap _ hc]
   refine callN.eq (hf _ (getD_mem hlt)) (by simp only [go_sem]) ?_
   simp only [go_sem, shds_kill _ hc, shds_copy _ _ _ hc]
   have hget : xs.getD i default = xs[i] := by simp [List.getD, List.getElem?_eq_getElem hlt]
   rw [hget]
   refine branch_split (fun h2 => ?_) (fun h2 => ?_)
   ·simp only [go_sem, shds_kill _ hc, shds_copy _ _ _ hc]
    exact (idxOf_hit hi.2 hlt h2).symm
   ·simp only [go_sem, shds_kill _ hc, shds_copy _ _ _ hc]
    simp (disch := omega) only [wrap64, wrapU64, wrapU32, wrapU8]
    refine again_intro (i + 1) ⟨by omega, ?_⟩ (by omega) ?_
    ·intro x hx
     rw [take_succ_getD hlt, List.mem_append, hget] at hx
     rcases hx with hx | hx
     ·exact hi.2 x hx
     ·simp only [List.mem_singleton] at hx
      rw [hx]
      exact h2
    ·simp only [go_sem]
     omega
  ·simp only [go_sem]
   have hie : i = xs.length := by omega
   refine (idxOf_none ?_).symm
   have := hi.2
   rwa [hie, List.take_length] at this
theorem ok133 (xs : List ByteArray) (f : Nat) (caps : List AVal) (p : ByteArray -> Bool) (hc : shdAs caps = true) (hg : caps.all (fun x => !isAggA x) = true) (hf : ∀ x ∈ xs, VCalls gz f (strA x :: caps) none (fun y _ => y = .lit (.bool (p x)))) :
  VCalls gz 133 [.lst false 1 (xs.map strA), .fn f caps] none (fun y _ => y = .lit (.bool (xs.any p))) := by
 refine VCalls.go (nt := 9) (keep := [0, 1, 4]) (muts := []) (mvs := []) [] f133_at rfl (by kernel_rfl) rfl (by kernel_rfl) rfl (fun i h => by cases h) rfl ?_
 intro hok
 simp only [go_sem] at hok
 simp only [Tryz.f133, Func.code, Option.getD_some]
 simp only [go_sem]
 simp only [go_sem, shds_kill _ hc, shds_copy _ _ _ hc]
 refine call_lend ?_
 simp only [go_sem, shds_snap _ hc]
 refine callN.eq (ok151 xs f caps p hc hg hf) (by simp only [go_sem]) ?_
 simp only [go_sem, shds_kill _ hc, shds_copy _ _ _ hc]
 simp only [idxOf_nonneg, Bool.decide_eq_true]
end Go.VS
set_option linter.unusedSimpArgs false
set_option linter.unusedVariables false
open Go.Proofs
set_option maxRecDepth 20000
namespace Go.VS
def midL {α : Type} (xs ys : List α) (i : Nat) : List α := xs.take i ++ ys.drop i
theorem midL_zero {α : Type} (xs ys : List α) : midL xs ys 0 = ys := by simp [midL]
theorem midL_length {α : Type} {xs ys : List α} {i : Nat} (hi : i <= xs.length) (h : ys.length = xs.length) : (midL xs ys i).length = xs.length := by simp [midL]; omega
theorem midL_all {α : Type} (xs : List α) {ys : List α} (h : ys.length = xs.length) : midL xs ys xs.length = xs := by
 simp only [midL, List.take_length]
 rw [List.drop_eq_nil_of_le (by omega), List.append_nil]
theorem midL_get {α : Type} [Inhabited α] {xs ys : List α} {i : Nat} (hi : i < xs.length) (h : ys.length = xs.length) : (midL xs ys i).getD i default = ys.getD i default := by
 simp only [midL, List.getD]
 rw [List.getElem?_append_right (by rw [List.length_take]; omega), List.length_take, Nat.min_eq_left (Nat.le_of_lt hi), Nat.sub_self, List.getElem?_drop, Nat.add_zero]
theorem midL_mod {α : Type} [Inhabited α] {xs ys : List α} {i : Nat} (hi : i < xs.length) (h : ys.length = xs.length) {f : α -> α} (hf : f (ys.getD i default) = xs.getD i default) : (midL xs ys i).modify i f = midL xs ys (i + 1) := by
 have hy : i < ys.length := by omega
 have e1 : ys.drop i = ys[i] :: ys.drop (i + 1) := List.drop_eq_getElem_cons hy
 have e2 : ys.getD i default = ys[i] := by simp [List.getD, hy]
 have e3 : xs.getD i default = xs[i] := by simp [List.getD, hi]
 rw [e2, e3] at hf
 have e4 : xs.take (i + 1) = xs.take i ++ [xs[i]] := List.take_succ_eq_append_getElem hi
 apply List.ext_getElem?
 intro j
 simp only [midL, e1, e4, List.getElem?_modify]
 by_cases hj : i = j
 ·subst hj
  have hl : (xs.take i).length = i := by simp; omega
  rw [List.getElem?_append_right (by omega), hl, Nat.sub_self, List.append_assoc, List.getElem?_append_right (by omega), hl, Nat.sub_self]
  simp [hf, hy]
 ·simp only [if_neg hj, Option.map_id']
  by_cases hlt : j < i
  ·rw [List.getElem?_append_left (by simp; omega), List.append_assoc, List.getElem?_append_left (by simp; omega)]
   simp
  ·rw [List.getElem?_append_right (by simp; omega), List.append_assoc, List.getElem?_append_right (by simp; omega)]
   have hl : (xs.take i).length = i := by simp; omega
   rw [hl]
   obtain ⟨k, rfl⟩ : ∃ k, j = i + (k + 1) := ⟨j - i - 1, by omega⟩
   rw [show i + (k + 1) - i = k + 1 by omega]
   simp [show i + (k + 1) = i + 1 + k by omega]
theorem modify_set {α : Type} {xs : List α} {i : Nat} {v : α} : xs.modify i (fun _ => v) = xs.set i v := by
 apply List.ext_getElem?
 intro j
 simp only [List.getElem?_modify, List.getElem?_set]
 by_cases hj : i = j
 ·subst hj
  by_cases hl : i < xs.length
  ·simp [hl]
  ·simp [hl]
 ·simp [hj]
theorem modify_enc {α : Type} {f : α -> AVal} {xs : List α} {i : Nat} {v : α} {y : AVal} (h : y = f v) : (xs.map f).modify i (putF [] y) = (xs.set i v).map f := by
 subst h
 exact modify_map
theorem midL_set {α : Type} [Inhabited α] (xs ys : List α) {i : Nat} (hi : i < xs.length) (h : ys.length = xs.length) : (midL xs ys i).set i (xs.getD i default) = midL xs ys (i + 1) := by
 rw [<- modify_set]
 exact midL_mod hi h rfl
theorem ext_getD {α : Type} [Inhabited α] {xs ys : List α} (h : xs.length = ys.length) (he : ∀ j, j < xs.length -> xs.getD j default = ys.getD j default) : xs = ys := by
 apply List.ext_getElem h
 intro j h1 h2
 have := he j h1
 simpa [List.getD, h1, h2] using this
end Go.VS
set_option linter.unusedSimpArgs false
set_option linter.unusedVariables false
open Go.Proofs
set_option maxRecDepth 20000
namespace Go.VS
def intA (n : Int) : AVal := .lit (.int .i64 n)
structure Vot where
 view : Int
 name : Int
 bY : Int
 tag : Int
 deriving DecidableEq
instance : Inhabited Vot := ⟨⟨0, 0, 0, 0⟩⟩
def Vot.enc (v : Vot) : AVal := .agg [.lit (.int .i64 v.view), .lit (.int .i64 v.name), .lit (.int .i64 v.bY), .lit (.int .i64 v.tag)]
structure Prf where
 view : Int
 name : Int
 bys : List Int
 tags : List Int
 deriving DecidableEq
instance : Inhabited Prf := ⟨⟨0, 0, [], []⟩⟩
def Prf.enc (own : Bool) (p : Prf) : AVal := .agg [.lit (.int .i64 p.view), .lit (.int .i64 p.name), .lst own 1 (p.bys.map intA), .lst own 1 (p.tags.map intA)]
structure Blk where
 view : Int
 parent : Int
 proof : Prf
 moves : List ByteArray
 bY : Int
instance : DecidableEq Blk := fun a b => by
 cases a; cases b; simp only [Blk.mk.injEq]; infer_instance
instance : Inhabited Blk := ⟨⟨0, 0, default, [], 0⟩⟩
def Blk.enc (own : Bool) (b : Blk) : AVal := .agg [.lit (.int .i64 b.view), .lit (.int .i64 b.parent), b.proof.enc own, .lst own 1 (b.moves.map strA), .lit (.int .i64 b.bY)]
structure Nws where
 view : Int
 src : Int
 deriving DecidableEq
instance : Inhabited Nws := ⟨⟨0, 0⟩⟩
def Nws.enc (v : Nws) : AVal := .agg [.lit (.int .i64 v.view), .lit (.int .i64 v.src)]
structure Rpl where
 id : Int
 n : Int
 view : Int
 voted : Int
 locked : Int
 proposed : Int
 high : Prf
 blocks : List Blk
 votes : List Vot
 news : List Nws
 done : List Int
instance : DecidableEq Rpl := fun a b => by
 cases a; cases b; simp only [Rpl.mk.injEq]; infer_instance
def Rpl.enc (own : Bool) (r : Rpl) : AVal := .agg [.lit (.int .i64 r.id), .lit (.int .i64 r.n), .lit (.int .i64 r.view), .lit (.int .i64 r.voted), .lit (.int .i64 r.locked), .lit (.int .i64 r.proposed), r.high.enc own, .lst own 8 (r.blocks.map (Blk.enc own)), .lst own 4 (r.votes.map Vot.enc), .lst own 2 (r.news.map Nws.enc), .lst own 1 (r.done.map intA)]
theorem intA_eq {s : Int} : intA s = .lit (.int .i64 s) := nr rfl
theorem Vot.enc_eq {v : Vot} : Vot.enc v = .agg [.lit (.int .i64 v.view), .lit (.int .i64 v.name), .lit (.int .i64 v.bY), .lit (.int .i64 v.tag)] := nr rfl
theorem Prf.enc_eq {own : Bool} {p : Prf} : Prf.enc own p = .agg [.lit (.int .i64 p.view), .lit (.int .i64 p.name), .lst own 1 (p.bys.map intA), .lst own 1 (p.tags.map intA)] := nr rfl
theorem Blk.enc_eq {own : Bool} {b : Blk} : Blk.enc own b = .agg [.lit (.int .i64 b.view), .lit (.int .i64 b.parent), b.proof.enc own, .lst own 1 (b.moves.map strA), .lit (.int .i64 b.bY)] := nr rfl
theorem Nws.enc_eq {v : Nws} : Nws.enc v = .agg [.lit (.int .i64 v.view), .lit (.int .i64 v.src)] := nr rfl
theorem Rpl.enc_eq {own : Bool} {r : Rpl} : Rpl.enc own r = .agg [.lit (.int .i64 r.id), .lit (.int .i64 r.n), .lit (.int .i64 r.view), .lit (.int .i64 r.voted), .lit (.int .i64 r.locked), .lit (.int .i64 r.proposed), r.high.enc own, .lst own 8 (r.blocks.map (Blk.enc own)), .lst own 4 (r.votes.map Vot.enc), .lst own 2 (r.news.map Nws.enc), .lst own 1 (r.done.map intA)] := nr rfl
attribute [go_sem] intA_eq Vot.enc_eq Prf.enc_eq Blk.enc_eq Nws.enc_eq Rpl.enc_eq
end Go.VS
set_option linter.unusedSimpArgs false
set_option linter.unusedVariables false
open Go.Proofs
set_option maxRecDepth 20000
namespace Go.VS
theorem f58_at : gz.P.funcs[58]? = some Tryz.f58 := by
 have h : Tryz.prog.funcs[58]? = some Tryz.f58 := by kernel_rfl
 exact h
theorem f22_at : gz.P.funcs[22]? = some Tryz.f22 := by
 have h : Tryz.prog.funcs[22]? = some Tryz.f22 := by kernel_rfl
 exact h
theorem f20_at : gz.P.funcs[20]? = some Tryz.f20 := by
 have h : Tryz.prog.funcs[20]? = some Tryz.f20 := by kernel_rfl
 exact h
theorem f21_at : gz.P.funcs[21]? = some Tryz.f21 := by
 have h : Tryz.prog.funcs[21]? = some Tryz.f21 := by kernel_rfl
 exact h
theorem f18_at : gz.P.funcs[18]? = some Tryz.f18 := by
 have h : Tryz.prog.funcs[18]? = some Tryz.f18 := by kernel_rfl
 exact h
theorem f23_at : gz.P.funcs[23]? = some Tryz.f23 := by
 have h : Tryz.prog.funcs[23]? = some Tryz.f23 := by kernel_rfl
 exact h
theorem f19_at : gz.P.funcs[19]? = some Tryz.f19 := by
 have h : Tryz.prog.funcs[19]? = some Tryz.f19 := by kernel_rfl
 exact h
theorem f4_at : gz.P.funcs[4]? = some Tryz.f4 := by
 have h : Tryz.prog.funcs[4]? = some Tryz.f4 := by kernel_rfl
 exact h
def szR (n : Nat) (left : Int) : Int := if (n : Int) <= left then left - n else -1
def szL {α : Type} (f : α -> Nat) (xs : List α) : Nat := xs.length + (xs.map f).sum
def szN {α : Type} (f : α -> Nat) (xs : List α) (i : Nat) : Nat := xs.length + ((xs.take i).map f).sum
theorem szN_zero {α : Type} (f : α -> Nat) (xs : List α) : szN f xs 0 = xs.length := by simp [szN]
theorem szN_len {α : Type} (f : α -> Nat) (xs : List α) : szN f xs xs.length = szL f xs := by simp [szN, szL]
theorem szN_succ {α : Type} [Inhabited α] (f : α -> Nat) (xs : List α) {i : Nat} (h : i < xs.length) : szN f xs (i + 1) = szN f xs i + f (xs.getD i default) := by
 simp only [szN, take_succ_getD h, List.map_append, List.sum_append, List.map_cons, List.map_nil, List.sum_cons, List.sum_nil]
 omega
theorem szN_le {α : Type} (f : α -> Nat) (xs : List α) (i : Nat) : szN f xs i <= szL f xs := by
 simp only [szN, szL]
 have : (xs.map f).sum = ((xs.take i).map f).sum + ((xs.drop i).map f).sum := by
  rw [<- List.sum_append, <- List.map_append, List.take_append_drop]
 omega
theorem szR_lt {n : Nat} {left : Int} (h : left < n) : szR n left = -1 := if_neg (by omega)
theorem szR_le {n : Nat} {left : Int} (h : (n : Int) <= left) : szR n left = left - n := if_pos h
theorem szR_add {a b : Nat} {left : Int} (h : (a : Int) <= left) : szR b (left - a) = szR (a + b) left := by
 unfold szR
 split <;> split <;> omega
def room (left : Int) : Prop := 0 <= left /\ left <= 1048576
theorem ok58 (xs : List ByteArray) (left : Int) (hl : room left) : VCalls gz 58 [.lst false 1 (xs.map strA), .lit (.int .i64 left)] none (fun y _ => y = .lit (.int .i64 (szR (szL ByteArray.size xs) left))) := by
 obtain ⟨hl1, hl2⟩ := hl
 refine VCalls.go (nt := 28) (keep := [0, 1, 4, 5, 11, 15, 26]) (muts := []) (mvs := []) [] f58_at rfl (by kernel_rfl) rfl (by kernel_rfl) rfl (fun i h => by cases h) rfl ?_
 intro hok
 simp only [go_sem] at hok
 simp only [Tryz.f58, Func.code, Option.getD_some]
 simp only [go_sem]
 intro hm
 have hw : IntKind.i64.wrap (left - (xs.length : Int)) = left - (xs.length : Int) := wrap64 (by omega) (by omega)
 simp only [go_sem, hw]
 first | refine branch_ndec (fun h => ?_) (fun h => ?_) | refine branch_dec (fun h => ?_) (fun h => ?_) | refine branch_nbool (fun h => ?_) (fun h => ?_) | refine branch_split (fun h => ?_) (fun h => ?_)
 ·simp only [go_sem]
  rw [szR_lt (by have := szN_le ByteArray.size xs 0; rw [szN_zero] at this; omega)]
 ·simp only [go_sem]
  refine vm_loopK (α := Nat) (fun i => [(0, .lst false 1 (xs.map strA)), (1, .lit (.int .i64 (left - szN ByteArray.size xs i))), (4, .lit (.int .i64 0)), (5, .lit (.int .i64 i))]) (fun i => i <= xs.length /\ (szN ByteArray.size xs i : Int) <= left) (fun i => xs.length - i) 0 ?_ ⟨by omega, by rw [szN_zero]; omega⟩ (by kernel_rfl) (fun _ => rfl) ?_
  ·simp only [go_sem, szN_zero]
   try trivial
  ·rintro i ⟨hi, hs⟩ hk
   simp only [go_sem]
   intro _
   first | refine branch_ndec (fun h2 => ?_) (fun h2 => ?_) | refine branch_dec (fun h2 => ?_) (fun h2 => ?_) | refine branch_nbool (fun h2 => ?_) (fun h2 => ?_) | refine branch_split (fun h2 => ?_) (fun h2 => ?_)
   ·have hlt : i < xs.length := by omega
    have h0 : (0 : Int) <= (i : Int) := by omega
    have hn := szN_succ ByteArray.size xs hlt
    simp only [go_sem, h0, hlt]
    refine ⟨h2, fun hb => ?_⟩
    have hw2 : IntKind.i64.wrap (left - ↑(szN ByteArray.size xs i) - ((ByteArray.size (xs.getD i default) : Nat) : Int)) = left - (szN ByteArray.size xs (i + 1) : Nat) := by rw [wrap64 (by omega) (by omega)]; omega
    rw [hw2]
    first | refine branch_ndec (fun h3 => ?_) (fun h3 => ?_) | refine branch_dec (fun h3 => ?_) (fun h3 => ?_) | refine branch_nbool (fun h3 => ?_) (fun h3 => ?_) | refine branch_split (fun h3 => ?_) (fun h3 => ?_)
    ·simp only [go_sem]
     rw [szR_lt (by have := szN_le ByteArray.size xs (i + 1); omega)]
    ·have hw3 : IntKind.i64.wrap ((i : Int) + 1) = ((i + 1 : Nat) : Int) := by rw [wrap64 (by omega) (by omega)]; omega
     simp only [go_sem, hw3]
     refine again_intro (i + 1) ⟨by omega, by omega⟩ (by omega) ?_
     simp only [go_sem]
     try trivial
   ·simp only [go_sem]
    have : i = xs.length := by omega
    subst this
    rw [szN_len] at hs ⊢
    rw [szR_le hs]
theorem ok22 (xs : List Int) (left : Int) (hl : room left) : VCalls gz 22 [.lst false 1 (xs.map intA), .lit (.int .i64 left)] none (fun y _ => y = .lit (.int .i64 (szR xs.length left))) := by
 obtain ⟨hl1, hl2⟩ := hl
 refine VCalls.go (nt := 12) (keep := [0, 1, 4, 10]) (muts := []) (mvs := []) [] f22_at rfl (by kernel_rfl) rfl (by kernel_rfl) rfl (fun i h => by cases h) rfl ?_
 intro hok
 simp only [go_sem] at hok
 simp only [Tryz.f22, Func.code, Option.getD_some]
 simp only [go_sem]
 intro hm
 have hw : IntKind.i64.wrap (left - (xs.length : Int)) = left - (xs.length : Int) := wrap64 (by omega) (by omega)
 simp only [go_sem, hw]
 first | refine branch_ndec (fun h => ?_) (fun h => ?_) | refine branch_dec (fun h => ?_) (fun h => ?_) | refine branch_nbool (fun h => ?_) (fun h => ?_) | refine branch_split (fun h => ?_) (fun h => ?_)
 ·simp only [go_sem]
  rw [szR_lt (by omega)]
 ·simp only [go_sem]
  rw [szR_le (by omega)]
theorem ok20 (xs : List Vot) (left : Int) (hl : room left) : VCalls gz 20 [.lst false 4 (xs.map Vot.enc), .lit (.int .i64 left)] none (fun y _ => y = .lit (.int .i64 (szR xs.length left))) := by
 obtain ⟨hl1, hl2⟩ := hl
 refine VCalls.go (nt := 12) (keep := [0, 1, 4, 10]) (muts := []) (mvs := []) [] f20_at rfl (by kernel_rfl) rfl (by kernel_rfl) rfl (fun i h => by cases h) rfl ?_
 intro hok
 simp only [go_sem] at hok
 simp only [Tryz.f20, Func.code, Option.getD_some]
 simp only [go_sem]
 intro hm
 have hw : IntKind.i64.wrap (left - (xs.length : Int)) = left - (xs.length : Int) := wrap64 (by omega) (by omega)
 simp only [go_sem, hw]
 first | refine branch_ndec (fun h => ?_) (fun h => ?_) | refine branch_dec (fun h => ?_) (fun h => ?_) | refine branch_nbool (fun h => ?_) (fun h => ?_) | refine branch_split (fun h => ?_) (fun h => ?_)
 ·simp only [go_sem]
  rw [szR_lt (by omega)]
 ·simp only [go_sem]
  rw [szR_le (by omega)]
theorem ok21 (xs : List Nws) (left : Int) (hl : room left) : VCalls gz 21 [.lst false 2 (xs.map Nws.enc), .lit (.int .i64 left)] none (fun y _ => y = .lit (.int .i64 (szR xs.length left))) := by
 obtain ⟨hl1, hl2⟩ := hl
 refine VCalls.go (nt := 12) (keep := [0, 1, 4, 10]) (muts := []) (mvs := []) [] f21_at rfl (by kernel_rfl) rfl (by kernel_rfl) rfl (fun i h => by cases h) rfl ?_
 intro hok
 simp only [go_sem] at hok
 simp only [Tryz.f21, Func.code, Option.getD_some]
 simp only [go_sem]
 intro hm
 have hw : IntKind.i64.wrap (left - (xs.length : Int)) = left - (xs.length : Int) := wrap64 (by omega) (by omega)
 simp only [go_sem, hw]
 first | refine branch_ndec (fun h => ?_) (fun h => ?_) | refine branch_dec (fun h => ?_) (fun h => ?_) | refine branch_nbool (fun h => ?_) (fun h => ?_) | refine branch_split (fun h => ?_) (fun h => ?_)
 ·simp only [go_sem]
  rw [szR_lt (by omega)]
 ·simp only [go_sem]
  rw [szR_le (by omega)]
def Prf.sz (p : Prf) : Nat := p.bys.length + p.tags.length
theorem ok18 (p : Prf) (left : Int) (hl : room left) : VCalls gz 18 [p.enc false, .lit (.int .i64 left)] none (fun y _ => y = .lit (.int .i64 (szR p.sz left))) := by
 obtain ⟨hl1, hl2⟩ := hl
 have hz : p.sz = p.bys.length + p.tags.length := rfl
 refine VCalls.go (nt := 18) (keep := [0, 1, 2, 4, 10, 16]) (muts := []) (mvs := []) [] f18_at rfl (by kernel_rfl) rfl (by kernel_rfl) rfl (fun i h => by cases h) rfl ?_
 intro hok
 simp only [go_sem] at hok
 simp only [Tryz.f18, Func.code, Option.getD_some]
 simp only [go_sem]
 obtain ⟨A1, g1⟩ : ∃ A, A = p.bys.length := ⟨_, rfl⟩
 refine call_lend ?_
 simp only [go_sem]
 refine callN.eq (ok22 p.bys left ⟨hl1, hl2⟩) (by simp only [go_sem]) ?_
 simp only [go_sem]
 rw [<- g1]
 by_cases h1 : (A1 : Int) <= left
 rotate_left
 ·rw [show szR A1 left = -1 from szR_lt (by omega)]
  simp only [go_sem]
  rw [szR_lt (by omega)]
 rw [show szR A1 left = left - (A1 : Int) from szR_le h1]
 have n1 : ¬ (left - (A1 : Int) < 0) := by omega
 simp only [n1, decide_false]
 simp only [go_sem]
 refine call_lend ?_
 simp only [go_sem]
 refine callN.eq (ok22 p.tags _ ⟨by omega, by omega⟩) (by simp only [go_sem]) ?_
 simp only [go_sem]
 obtain ⟨A2, g2⟩ : ∃ A, A = A1 + p.tags.length := ⟨_, rfl⟩
 rw [szR_add h1, <- g2]
 by_cases h2 : (A2 : Int) <= left
 rotate_left
 ·rw [show szR A2 left = -1 from szR_lt (by omega)]
  simp only [go_sem]
  rw [szR_lt (by omega)]
 rw [show szR A2 left = left - (A2 : Int) from szR_le h2]
 have n2 : ¬ (left - (A2 : Int) < 0) := by omega
 simp only [n2, decide_false]
 simp only [go_sem]
 rw [szR_le (by omega)]
 simp only [show p.sz = A2 by omega]
def Blk.sz (b : Blk) : Nat := b.proof.sz + szL ByteArray.size b.moves
theorem ok23 (b : Blk) (left : Int) (hl : room left) : VCalls gz 23 [b.enc false, .lit (.int .i64 left)] none (fun y _ => y = .lit (.int .i64 (szR b.sz left))) := by
 obtain ⟨hl1, hl2⟩ := hl
 have hz : b.sz = b.proof.sz + szL ByteArray.size b.moves := rfl
 refine VCalls.go (nt := 18) (keep := [0, 1, 2, 4, 10, 16]) (muts := []) (mvs := []) [] f23_at rfl (by kernel_rfl) rfl (by kernel_rfl) rfl (fun i h => by cases h) rfl ?_
 intro hok
 simp only [go_sem] at hok
 simp only [Tryz.f23, Func.code, Option.getD_some]
 simp only [go_sem]
 obtain ⟨A1, g1⟩ : ∃ A, A = b.proof.sz := ⟨_, rfl⟩
 refine call_lend ?_
 simp only [go_sem]
 refine callN.eq (ok18 b.proof left ⟨hl1, hl2⟩) (by simp only [go_sem]) ?_
 simp only [go_sem]
 rw [<- g1]
 by_cases h1 : (A1 : Int) <= left
 rotate_left
 ·rw [show szR A1 left = -1 from szR_lt (by omega)]
  simp only [go_sem]
  rw [szR_lt (by omega)]
 rw [show szR A1 left = left - (A1 : Int) from szR_le h1]
 have n1 : ¬ (left - (A1 : Int) < 0) := by omega
 simp only [n1, decide_false]
 simp only [go_sem]
 refine call_lend ?_
 simp only [go_sem]
 refine callN.eq (ok58 b.moves _ ⟨by omega, by omega⟩) (by simp only [go_sem]) ?_
 simp only [go_sem]
 obtain ⟨A2, g2⟩ : ∃ A, A = A1 + (szL ByteArray.size b.moves) := ⟨_, rfl⟩
 rw [szR_add h1, <- g2]
 by_cases h2 : (A2 : Int) <= left
 rotate_left
 ·rw [show szR A2 left = -1 from szR_lt (by omega)]
  simp only [go_sem]
  rw [szR_lt (by omega)]
 rw [show szR A2 left = left - (A2 : Int) from szR_le h2]
 have n2 : ¬ (left - (A2 : Int) < 0) := by omega
 simp only [n2, decide_false]
 simp only [go_sem]
 rw [szR_le (by omega)]
 simp only [show b.sz = A2 by omega]
theorem ok19 (xs : List Blk) (left : Int) (hl : room left) : VCalls gz 19 [.lst false 8 (xs.map (Blk.enc false)), .lit (.int .i64 left)] none (fun y _ => y = .lit (.int .i64 (szR (szL Blk.sz xs) left))) := by
 obtain ⟨hl1, hl2⟩ := hl
 refine VCalls.go (nt := 27) (keep := [0, 1, 4, 5, 11, 15, 25]) (muts := []) (mvs := []) [] f19_at rfl (by kernel_rfl) rfl (by kernel_rfl) rfl (fun i h => by cases h) rfl ?_
 intro hok
 simp only [go_sem] at hok
 simp only [Tryz.f19, Func.code, Option.getD_some]
 simp only [go_sem]
 intro hm
 have hw : IntKind.i64.wrap (left - (xs.length : Int)) = left - (xs.length : Int) := wrap64 (by omega) (by omega)
 simp only [go_sem, hw]
 first | refine branch_ndec (fun h => ?_) (fun h => ?_) | refine branch_dec (fun h => ?_) (fun h => ?_) | refine branch_nbool (fun h => ?_) (fun h => ?_) | refine branch_split (fun h => ?_) (fun h => ?_)
 ·simp only [go_sem]
  rw [szR_lt (by have := szN_le Blk.sz xs 0; rw [szN_zero] at this; omega)]
 ·simp only [go_sem]
  refine vm_loopK (α := Nat) (fun i => [(0, .lst false 8 (xs.map (Blk.enc false))), (1, .lit (.int .i64 (left - szN Blk.sz xs i))), (4, .lit (.int .i64 0)), (5, .lit (.int .i64 i))]) (fun i => i <= xs.length /\ (szN Blk.sz xs i : Int) <= left) (fun i => xs.length - i) 0 ?_ ⟨by omega, by rw [szN_zero]; omega⟩ (by kernel_rfl) (fun _ => rfl) ?_
  ·simp only [go_sem, szN_zero]
   try trivial
  ·rintro i ⟨hi, hs⟩ hk
   simp only [go_sem]
   intro _
   first | refine branch_ndec (fun h2 => ?_) (fun h2 => ?_) | refine branch_dec (fun h2 => ?_) (fun h2 => ?_) | refine branch_nbool (fun h2 => ?_) (fun h2 => ?_) | refine branch_split (fun h2 => ?_) (fun h2 => ?_)
   ·have hlt : i < xs.length := by omega
    have h0 : (0 : Int) <= (i : Int) := by omega
    have hn := szN_succ Blk.sz xs hlt
    simp only [go_sem, h0, hlt]
    refine ⟨h2, ?_⟩
    refine call_lend ?_
    simp only [go_sem]
    refine callN.eq (ok23 (xs.getD i default) (left - szN Blk.sz xs i) ⟨by omega, by omega⟩) (by simp only [go_sem]) ?_
    simp only [go_sem]
    rw [szR_add hs, <- hn]
    by_cases h3 : (szN Blk.sz xs (i + 1) : Int) <= left
    ·have e3 : szR (szN Blk.sz xs (i + 1)) left = left - (szN Blk.sz xs (i + 1) : Nat) := szR_le h3
     rw [e3]
     have h4 : ¬ (left - (szN Blk.sz xs (i + 1) : Int) < 0) := by omega
     have hw3 : IntKind.i64.wrap ((i : Int) + 1) = ((i + 1 : Nat) : Int) := by rw [wrap64 (by omega) (by omega)]; omega
     simp only [h4, decide_false]
     simp only [go_sem, hw3]
     refine again_intro (i + 1) ⟨by omega, by omega⟩ (by omega) ?_
     simp only [go_sem]
     try trivial
    ·have e3 : szR (szN Blk.sz xs (i + 1)) left = -1 := szR_lt (by omega)
     rw [e3]
     simp only [go_sem]
     rw [szR_lt (by have := szN_le Blk.sz xs (i + 1); omega)]
   ·simp only [go_sem]
    have : i = xs.length := by omega
    subst this
    rw [szN_len] at hs ⊢
    rw [szR_le hs]
def Rpl.sz (r : Rpl) : Nat := r.high.sz + szL Blk.sz r.blocks + r.votes.length + r.news.length + r.done.length
theorem ok4 (r : Rpl) (left : Int) (hl : room left) : VCalls gz 4 [r.enc false, .lit (.int .i64 left)] none (fun y _ => y = .lit (.int .i64 (szR r.sz left))) := by
 obtain ⟨hl1, hl2⟩ := hl
 have hz : r.sz = r.high.sz + szL Blk.sz r.blocks + r.votes.length + r.news.length + r.done.length := rfl
 refine VCalls.go (nt := 36) (keep := [0, 1, 2, 4, 10, 16, 22, 28, 34]) (muts := []) (mvs := []) [] f4_at rfl (by kernel_rfl) rfl (by kernel_rfl) rfl (fun i h => by cases h) rfl ?_
 intro hok
 simp only [go_sem] at hok
 simp only [Tryz.f4, Func.code, Option.getD_some]
 simp only [go_sem]
 obtain ⟨A1, g1⟩ : ∃ A, A = r.high.sz := ⟨_, rfl⟩
 refine call_lend ?_
 simp only [go_sem]
 refine callN.eq (ok18 r.high left ⟨hl1, hl2⟩) (by simp only [go_sem]) ?_
 simp only [go_sem]
 rw [<- g1]
 by_cases h1 : (A1 : Int) <= left
 rotate_left
 ·rw [show szR A1 left = -1 from szR_lt (by omega)]
  simp only [go_sem]
  rw [szR_lt (by omega)]
 rw [show szR A1 left = left - (A1 : Int) from szR_le h1]
 have n1 : ¬ (left - (A1 : Int) < 0) := by omega
 simp only [n1, decide_false]
 simp only [go_sem]
 refine call_lend ?_
 simp only [go_sem]
 refine callN.eq (ok19 r.blocks _ ⟨by omega, by omega⟩) (by simp only [go_sem]) ?_
 simp only [go_sem]
 obtain ⟨A2, g2⟩ : ∃ A, A = A1 + (szL Blk.sz r.blocks) := ⟨_, rfl⟩
 rw [szR_add h1, <- g2]
 by_cases h2 : (A2 : Int) <= left
 rotate_left
 ·rw [show szR A2 left = -1 from szR_lt (by omega)]
  simp only [go_sem]
  rw [szR_lt (by omega)]
 rw [show szR A2 left = left - (A2 : Int) from szR_le h2]
 have n2 : ¬ (left - (A2 : Int) < 0) := by omega
 simp only [n2, decide_false]
 simp only [go_sem]
 refine call_lend ?_
 simp only [go_sem]
 refine callN.eq (ok20 r.votes _ ⟨by omega, by omega⟩) (by simp only [go_sem]) ?_
 simp only [go_sem]
 obtain ⟨A3, g3⟩ : ∃ A, A = A2 + r.votes.length := ⟨_, rfl⟩
 rw [szR_add h2, <- g3]
 by_cases h3 : (A3 : Int) <= left
 rotate_left
 ·rw [show szR A3 left = -1 from szR_lt (by omega)]
  simp only [go_sem]
  rw [szR_lt (by omega)]
 rw [show szR A3 left = left - (A3 : Int) from szR_le h3]
 have n3 : ¬ (left - (A3 : Int) < 0) := by omega
 simp only [n3, decide_false]
 simp only [go_sem]
 refine call_lend ?_
 simp only [go_sem]
 refine callN.eq (ok21 r.news _ ⟨by omega, by omega⟩) (by simp only [go_sem]) ?_
 simp only [go_sem]
 obtain ⟨A4, g4⟩ : ∃ A, A = A3 + r.news.length := ⟨_, rfl⟩
 rw [szR_add h3, <- g4]
 by_cases h4 : (A4 : Int) <= left
 rotate_left
 ·rw [show szR A4 left = -1 from szR_lt (by omega)]
  simp only [go_sem]
  rw [szR_lt (by omega)]
 rw [show szR A4 left = left - (A4 : Int) from szR_le h4]
 have n4 : ¬ (left - (A4 : Int) < 0) := by omega
 simp only [n4, decide_false]
 simp only [go_sem]
 refine call_lend ?_
 simp only [go_sem]
 refine callN.eq (ok22 r.done _ ⟨by omega, by omega⟩) (by simp only [go_sem]) ?_
 simp only [go_sem]
 obtain ⟨A5, g5⟩ : ∃ A, A = A4 + r.done.length := ⟨_, rfl⟩
 rw [szR_add h4, <- g5]
 by_cases h5 : (A5 : Int) <= left
 rotate_left
 ·rw [show szR A5 left = -1 from szR_lt (by omega)]
  simp only [go_sem]
  rw [szR_lt (by omega)]
 rw [show szR A5 left = left - (A5 : Int) from szR_le h5]
 have n5 : ¬ (left - (A5 : Int) < 0) := by omega
 simp only [n5, decide_false]
 simp only [go_sem]
 rw [szR_le (by omega)]
 simp only [show r.sz = A5 by omega]
end Go.VS
set_option linter.unusedSimpArgs false
set_option linter.unusedVariables false
open Go.Proofs
set_option maxRecDepth 20000
namespace Go.VS
theorem f75_at : gz.P.funcs[75]? = some Tryz.f75 := by
 have h : Tryz.prog.funcs[75]? = some Tryz.f75 := by kernel_rfl
 exact h
theorem f31_at : gz.P.funcs[31]? = some Tryz.f31 := by
 have h : Tryz.prog.funcs[31]? = some Tryz.f31 := by kernel_rfl
 exact h
theorem f33_at : gz.P.funcs[33]? = some Tryz.f33 := by
 have h : Tryz.prog.funcs[33]? = some Tryz.f33 := by kernel_rfl
 exact h
theorem f29_at : gz.P.funcs[29]? = some Tryz.f29 := by
 have h : Tryz.prog.funcs[29]? = some Tryz.f29 := by kernel_rfl
 exact h
theorem f74_at : gz.P.funcs[74]? = some Tryz.f74 := by
 have h : Tryz.prog.funcs[74]? = some Tryz.f74 := by kernel_rfl
 exact h
theorem f30_at : gz.P.funcs[30]? = some Tryz.f30 := by
 have h : Tryz.prog.funcs[30]? = some Tryz.f30 := by kernel_rfl
 exact h
theorem f27_at : gz.P.funcs[27]? = some Tryz.f27 := by
 have h : Tryz.prog.funcs[27]? = some Tryz.f27 := by kernel_rfl
 exact h
theorem f32_at : gz.P.funcs[32]? = some Tryz.f32 := by
 have h : Tryz.prog.funcs[32]? = some Tryz.f32 := by kernel_rfl
 exact h
theorem ok75 (xs : List ByteArray) (hs : xs.length <= 1048576) : VCalls gz 75 [.lst false 1 (xs.map strA)] none (fun y _ => y = .lst true 1 (xs.map strA)) := by
 refine VCalls.go (nt := 22) (keep := [0, 2, 3, 4, 11]) (muts := []) (mvs := []) [] f75_at rfl (by kernel_rfl) rfl (by kernel_rfl) rfl (fun i h => by cases h) rfl ?_
 intro hok
 simp only [go_sem] at hok
 simp only [Tryz.f75, Func.code, Option.getD_some]
 simp only [go_sem]
 intro hm
 refine ⟨by omega, by omega, ⟨by omega, by omega⟩, ?_⟩
 refine vm_loopK (α := Nat) (fun i => [(0, .lst false 1 (xs.map strA)), (3, .lst true 1 ((midL xs (List.replicate xs.length default) i).map strA)), (4, .lit (.int .i64 i))]) (fun i => i <= xs.length) (fun i => xs.length - i) 0 ?_ (by omega) (by kernel_rfl) (fun _ => rfl) ?_
 ·simp only [go_sem]
  refine ⟨?_, rfl⟩
  rw [midL_zero, List.map_replicate]
  rfl
 ·intro i hi hk
  have hml : (midL xs (List.replicate xs.length default) i).length = xs.length := midL_length hi (by simp)
  simp only [go_sem]
  intro _
  first | refine branch_ndec (fun h2 => ?_) (fun h2 => ?_) | refine branch_dec (fun h2 => ?_) (fun h2 => ?_) | refine branch_nbool (fun h2 => ?_) (fun h2 => ?_) | refine branch_split (fun h2 => ?_) (fun h2 => ?_)
  ·have hlt : i < xs.length := by omega
   have h0 : (0 : Int) <= (i : Int) := by omega
   have hset := midL_set xs (List.replicate xs.length default) hlt (by simp)
   have hw3 : IntKind.i64.wrap ((i : Int) + 1) = ((i + 1 : Nat) : Int) := by rw [wrap64 (by omega) (by omega)]; omega
   simp only [go_sem, h0, hlt, h2, hml, hw3, hset]
   refine again_intro (i + 1) (by omega) (by omega) ?_
   simp only [go_sem]
   all_goals first | trivial | exact (modify_enc (f := strA) (v := xs.getD i default) rfl).trans (by rw [hset])
  ·simp only [go_sem]
   have : i = xs.length := by omega
   subst this
   rw [midL_all xs (by simp)]
theorem ok31 (xs : List Int) (hs : xs.length <= 1048576) : VCalls gz 31 [.lst false 1 (xs.map intA)] none (fun y _ => y = .lst true 1 (xs.map intA)) := by
 refine VCalls.go (nt := 22) (keep := [0, 2, 3, 4, 11]) (muts := []) (mvs := []) [] f31_at rfl (by kernel_rfl) rfl (by kernel_rfl) rfl (fun i h => by cases h) rfl ?_
 intro hok
 simp only [go_sem] at hok
 simp only [Tryz.f31, Func.code, Option.getD_some]
 simp only [go_sem]
 intro hm
 refine ⟨by omega, by omega, ⟨by omega, by omega⟩, ?_⟩
 refine vm_loopK (α := Nat) (fun i => [(0, .lst false 1 (xs.map intA)), (3, .lst true 1 ((midL xs (List.replicate xs.length default) i).map intA)), (4, .lit (.int .i64 i))]) (fun i => i <= xs.length) (fun i => xs.length - i) 0 ?_ (by omega) (by kernel_rfl) (fun _ => rfl) ?_
 ·simp only [go_sem]
  refine ⟨?_, rfl⟩
  rw [midL_zero, List.map_replicate]
  rfl
 ·intro i hi hk
  have hml : (midL xs (List.replicate xs.length default) i).length = xs.length := midL_length hi (by simp)
  simp only [go_sem]
  intro _
  first | refine branch_ndec (fun h2 => ?_) (fun h2 => ?_) | refine branch_dec (fun h2 => ?_) (fun h2 => ?_) | refine branch_nbool (fun h2 => ?_) (fun h2 => ?_) | refine branch_split (fun h2 => ?_) (fun h2 => ?_)
  ·have hlt : i < xs.length := by omega
   have h0 : (0 : Int) <= (i : Int) := by omega
   have hset := midL_set xs (List.replicate xs.length default) hlt (by simp)
   have hw3 : IntKind.i64.wrap ((i : Int) + 1) = ((i + 1 : Nat) : Int) := by rw [wrap64 (by omega) (by omega)]; omega
   simp only [go_sem, h0, hlt, h2, hml, hw3, hset]
   refine again_intro (i + 1) (by omega) (by omega) ?_
   simp only [go_sem]
   all_goals first | trivial | exact (modify_enc (f := intA) (v := xs.getD i default) rfl).trans (by rw [hset])
  ·simp only [go_sem]
   have : i = xs.length := by omega
   subst this
   rw [midL_all xs (by simp)]
theorem ok33 (v : Vot) : VCalls gz 33 [v.enc] none (fun y _ => y = v.enc) := by
 refine VCalls.go (nt := 17) (keep := [0, 1, 2, 3]) (muts := []) (mvs := []) [] f33_at rfl (by kernel_rfl) rfl (by kernel_rfl) rfl (fun i h => by cases h) rfl ?_
 intro hok
 simp only [go_sem] at hok
 simp only [Tryz.f33, Func.code, Option.getD_some]
 simp only [go_sem]
theorem ok29 (xs : List Vot) (hs : xs.length <= 1048576) : VCalls gz 29 [.lst false 4 (xs.map Vot.enc)] none (fun y _ => y = .lst true 4 (xs.map Vot.enc)) := by
 refine VCalls.go (nt := 23) (keep := [0, 2, 3, 4, 11]) (muts := []) (mvs := []) [] f29_at rfl (by kernel_rfl) rfl (by kernel_rfl) rfl (fun i h => by cases h) rfl ?_
 intro hok
 simp only [go_sem] at hok
 simp only [Tryz.f29, Func.code, Option.getD_some]
 simp only [go_sem]
 intro hm
 refine ⟨by omega, by omega, ⟨by omega, by omega⟩, ?_⟩
 refine vm_loopK (α := Nat) (fun i => [(0, .lst false 4 (xs.map Vot.enc)), (3, .lst true 4 ((midL xs (List.replicate xs.length default) i).map Vot.enc)), (4, .lit (.int .i64 i))]) (fun i => i <= xs.length) (fun i => xs.length - i) 0 ?_ (by omega) (by kernel_rfl) (fun _ => rfl) ?_
 ·simp only [go_sem]
  refine ⟨?_, rfl⟩
  rw [midL_zero, List.map_replicate]
  rfl
 ·intro i hi hk
  have hml : (midL xs (List.replicate xs.length default) i).length = xs.length := midL_length hi (by simp)
  simp only [go_sem]
  intro _
  first | refine branch_ndec (fun h2 => ?_) (fun h2 => ?_) | refine branch_dec (fun h2 => ?_) (fun h2 => ?_) | refine branch_nbool (fun h2 => ?_) (fun h2 => ?_) | refine branch_split (fun h2 => ?_) (fun h2 => ?_)
  ·have hlt : i < xs.length := by omega
   have h0 : (0 : Int) <= (i : Int) := by omega
   have hset := midL_set xs (List.replicate xs.length default) hlt (by simp)
   have hw3 : IntKind.i64.wrap ((i : Int) + 1) = ((i + 1 : Nat) : Int) := by rw [wrap64 (by omega) (by omega)]; omega
   simp only [go_sem, h0, hlt, h2]
   refine call_lend ?_
   simp only [go_sem]
   refine callN.eq (ok33 (xs.getD i default)) (by simp only [go_sem]) ?_
   simp only [go_sem]
   simp only [go_sem, h0, hlt, h2, hml, hw3, hset]
   refine again_intro (i + 1) (by omega) (by omega) ?_
   simp only [go_sem]
   first | trivial | exact (modify_enc (f := Vot.enc) (v := xs.getD i default) rfl).trans (by rw [hset])
  ·simp only [go_sem]
   have : i = xs.length := by omega
   subst this
   rw [midL_all xs (by simp)]
theorem ok74 (v : Nws) : VCalls gz 74 [v.enc] none (fun y _ => y = v.enc) := by
 refine VCalls.go (nt := 11) (keep := [0, 1, 2, 3]) (muts := []) (mvs := []) [] f74_at rfl (by kernel_rfl) rfl (by kernel_rfl) rfl (fun i h => by cases h) rfl ?_
 intro hok
 simp only [go_sem] at hok
 simp only [Tryz.f74, Func.code, Option.getD_some]
 simp only [go_sem]
theorem ok30 (xs : List Nws) (hs : xs.length <= 1048576) : VCalls gz 30 [.lst false 2 (xs.map Nws.enc)] none (fun y _ => y = .lst true 2 (xs.map Nws.enc)) := by
 refine VCalls.go (nt := 23) (keep := [0, 2, 3, 4, 11]) (muts := []) (mvs := []) [] f30_at rfl (by kernel_rfl) rfl (by kernel_rfl) rfl (fun i h => by cases h) rfl ?_
 intro hok
 simp only [go_sem] at hok
 simp only [Tryz.f30, Func.code, Option.getD_some]
 simp only [go_sem]
 intro hm
 refine ⟨by omega, by omega, ⟨by omega, by omega⟩, ?_⟩
 refine vm_loopK (α := Nat) (fun i => [(0, .lst false 2 (xs.map Nws.enc)), (3, .lst true 2 ((midL xs (List.replicate xs.length default) i).map Nws.enc)), (4, .lit (.int .i64 i))]) (fun i => i <= xs.length) (fun i => xs.length - i) 0 ?_ (by omega) (by kernel_rfl) (fun _ => rfl) ?_
 ·simp only [go_sem]
  refine ⟨?_, rfl⟩
  rw [midL_zero, List.map_replicate]
  rfl
 ·intro i hi hk
  have hml : (midL xs (List.replicate xs.length default) i).length = xs.length := midL_length hi (by simp)
  simp only [go_sem]
  intro _
  first | refine branch_ndec (fun h2 => ?_) (fun h2 => ?_) | refine branch_dec (fun h2 => ?_) (fun h2 => ?_) | refine branch_nbool (fun h2 => ?_) (fun h2 => ?_) | refine branch_split (fun h2 => ?_) (fun h2 => ?_)
  ·have hlt : i < xs.length := by omega
   have h0 : (0 : Int) <= (i : Int) := by omega
   have hset := midL_set xs (List.replicate xs.length default) hlt (by simp)
   have hw3 : IntKind.i64.wrap ((i : Int) + 1) = ((i + 1 : Nat) : Int) := by rw [wrap64 (by omega) (by omega)]; omega
   simp only [go_sem, h0, hlt, h2]
   refine call_lend ?_
   simp only [go_sem]
   refine callN.eq (ok74 (xs.getD i default)) (by simp only [go_sem]) ?_
   simp only [go_sem]
   simp only [go_sem, h0, hlt, h2, hml, hw3, hset]
   refine again_intro (i + 1) (by omega) (by omega) ?_
   simp only [go_sem]
   first | trivial | exact (modify_enc (f := Nws.enc) (v := xs.getD i default) rfl).trans (by rw [hset])
  ·simp only [go_sem]
   have : i = xs.length := by omega
   subst this
   rw [midL_all xs (by simp)]
theorem ok27 (p : Prf) (hp : p.sz <= 1048576) : VCalls gz 27 [p.enc false] none (fun y _ => y = p.enc true) := by
 have hp2 : p.bys.length + p.tags.length <= 1048576 := hp
 refine VCalls.go (nt := 19) (keep := [0, 1, 2, 3]) (muts := []) (mvs := [6]) [] f27_at rfl (by kernel_rfl) rfl (by kernel_rfl) rfl (fun i h => by cases h) rfl ?_
 intro hok
 simp only [go_sem] at hok
 simp only [Tryz.f27, Func.code, Option.getD_some]
 simp only [go_sem]
 refine call_lend ?_
 simp only [go_sem]
 refine callN.eq (ok31 p.bys (by omega)) (by simp only [go_sem]) ?_
 simp only [go_sem]
 refine call_lend ?_
 simp only [go_sem]
 refine callN.eq (ok31 p.tags (by omega)) (by simp only [go_sem]) ?_
 simp only [go_sem]
theorem ok32 (b : Blk) (hb : b.sz <= 1048576) : VCalls gz 32 [b.enc false] none (fun y _ => y = b.enc true) := by
 have hb2 : b.proof.sz + szL ByteArray.size b.moves <= 1048576 := hb
 simp only [szL] at hb2
 refine VCalls.go (nt := 22) (keep := [0, 1, 2, 3]) (muts := []) (mvs := [4,7]) [] f32_at rfl (by kernel_rfl) rfl (by kernel_rfl) rfl (fun i h => by cases h) rfl ?_
 intro hok
 simp only [go_sem] at hok
 simp only [Tryz.f32, Func.code, Option.getD_some]
 simp only [go_sem]
 refine call_lend ?_
 simp only [go_sem]
 refine callN.eq (ok27 b.proof (by omega)) (by simp only [go_sem]) ?_
 simp only [go_sem]
 refine call_lend ?_
 simp only [go_sem]
 refine callN.eq (ok75 b.moves (by omega)) (by simp only [go_sem]) ?_
 simp only [go_sem]
end Go.VS
set_option linter.unusedSimpArgs false
set_option linter.unusedVariables false
open Go.Proofs
set_option maxRecDepth 20000
namespace Go.VS
theorem f28_at : gz.P.funcs[28]? = some Tryz.f28 := by
 have h : Tryz.prog.funcs[28]? = some Tryz.f28 := by kernel_rfl
 exact h
theorem f7_at : gz.P.funcs[7]? = some Tryz.f7 := by
 have h : Tryz.prog.funcs[7]? = some Tryz.f7 := by kernel_rfl
 exact h
theorem ok28 (xs : List Blk) (hs : xs.length <= 1048576) (hz : ∀ i, i < xs.length -> Blk.sz (xs.getD i default) <= 1048576) : VCalls gz 28 [.lst false 8 (xs.map (Blk.enc false))] none (fun y _ => y = .lst true 8 (xs.map (Blk.enc true))) := by
 refine VCalls.go (nt := 23) (keep := [0, 2, 3, 4, 11]) (muts := []) (mvs := [5]) [] f28_at rfl (by kernel_rfl) rfl (by kernel_rfl) rfl (fun i h => by cases h) rfl ?_
 intro hok
 simp only [go_sem] at hok
 simp only [Tryz.f28, Func.code, Option.getD_some]
 simp only [go_sem]
 intro hm
 refine ⟨by omega, by omega, ⟨by omega, by omega⟩, ?_⟩
 refine vm_loopK (α := Nat) (fun i => [(0, .lst false 8 (xs.map (Blk.enc false))), (3, .lst true 8 ((midL xs (List.replicate xs.length default) i).map (Blk.enc true))), (4, .lit (.int .i64 i))]) (fun i => i <= xs.length) (fun i => xs.length - i) 0 ?_ (by omega) (by kernel_rfl) (fun _ => rfl) ?_
 ·simp only [go_sem]
  refine ⟨?_, rfl⟩
  rw [midL_zero, List.map_replicate]
  rfl
 ·intro i hi hk
  have hml : (midL xs (List.replicate xs.length default) i).length = xs.length := midL_length hi (by simp)
  simp only [go_sem]
  intro _
  first | refine branch_ndec (fun h2 => ?_) (fun h2 => ?_) | refine branch_dec (fun h2 => ?_) (fun h2 => ?_) | refine branch_nbool (fun h2 => ?_) (fun h2 => ?_) | refine branch_split (fun h2 => ?_) (fun h2 => ?_)
  ·have hlt : i < xs.length := by omega
   have h0 : (0 : Int) <= (i : Int) := by omega
   have hset := midL_set xs (List.replicate xs.length default) hlt (by simp)
   have hw3 : IntKind.i64.wrap ((i : Int) + 1) = ((i + 1 : Nat) : Int) := by rw [wrap64 (by omega) (by omega)]; omega
   simp only [go_sem, h0, hlt, h2]
   refine call_lend ?_
   simp only [go_sem]
   refine callN.eq (ok32 (xs.getD i default) (hz i hlt)) (by simp only [go_sem]) ?_
   simp only [go_sem]
   simp only [go_sem, h0, hlt, h2, hml, hw3, hset]
   refine again_intro (i + 1) (by omega) (by omega) ?_
   simp only [go_sem]
   first | trivial | exact (modify_enc (f := (Blk.enc true)) (v := xs.getD i default) rfl).trans (by rw [hset])
  ·simp only [go_sem]
   have : i = xs.length := by omega
   subst this
   rw [midL_all xs (by simp)]
theorem getD_sz {α : Type} [Inhabited α] {f : α -> Nat} {xs : List α} {i : Nat} (h : i < xs.length) : f (xs.getD i default) <= szL f xs := by
 have h1 := szN_succ f xs h
 have h2 := szN_le f xs (i + 1)
 omega
theorem ok7 (r : Rpl) (hr : r.sz <= 1048576) : VCalls gz 7 [r.enc false] none (fun y _ => y = r.enc true) := by
 have hr2 : r.high.sz + szL Blk.sz r.blocks + r.votes.length + r.news.length + r.done.length <= 1048576 := hr
 have hz : ∀ i, i < r.blocks.length -> Blk.sz (r.blocks.getD i default) <= 1048576 := fun i hi => by
  have := getD_sz (f := Blk.sz) hi
  omega
 have hl : r.blocks.length <= 1048576 := by
  have : szL Blk.sz r.blocks = r.blocks.length + (r.blocks.map Blk.sz).sum := rfl
  omega
 refine VCalls.go (nt := 43) (keep := [0, 1, 2, 3]) (muts := []) (mvs := [13]) [] f7_at rfl (by kernel_rfl) rfl (by kernel_rfl) rfl (fun i h => by cases h) rfl ?_
 intro hok
 simp only [go_sem] at hok
 simp only [Tryz.f7, Func.code, Option.getD_some]
 simp only [go_sem]
 refine call_lend ?_
 simp only [go_sem]
 refine callN.eq (ok27 r.high (by omega)) (by simp only [go_sem]) ?_
 simp only [go_sem]
 refine call_lend ?_
 simp only [go_sem]
 refine callN.eq (ok28 r.blocks hl hz) (by simp only [go_sem]) ?_
 simp only [go_sem]
 refine call_lend ?_
 simp only [go_sem]
 refine callN.eq (ok29 r.votes (by omega)) (by simp only [go_sem]) ?_
 simp only [go_sem]
 refine call_lend ?_
 simp only [go_sem]
 refine callN.eq (ok30 r.news (by omega)) (by simp only [go_sem]) ?_
 simp only [go_sem]
 refine call_lend ?_
 simp only [go_sem]
 refine callN.eq (ok31 r.done (by omega)) (by simp only [go_sem]) ?_
 simp only [go_sem]
end Go.VS
set_option linter.unusedSimpArgs false
set_option linter.unusedVariables false
open Go.Proofs
set_option maxRecDepth 20000
namespace Go.VS
theorem f138_at : gz.P.funcs[138]? = some Tryz.f138 := by
 have h : Tryz.prog.funcs[138]? = some Tryz.f138 := by kernel_rfl
 exact h
def Dev.ok (d : Dev) : Bool := decide (1 <= (d.secs.length : Int) /\ (d.secs.length : Int) <= 16) && decide ((d.late.length : Int) <= 30) && !(d.secs.any fun s => decide (400 < (s.size : Int))) && !(d.late.any fun p => !d.fits p.place p.text)
end Go.VS
set_option linter.unusedSimpArgs false
set_option linter.unusedVariables false
open Go.Proofs
set_option maxRecDepth 20000
namespace Go.VS
theorem ok138 (xs : List ByteArray) (hx : xs.length * 16 <= 140737488355328) : VCalls gz 138 [.lst false 1 (xs.map strA)] none (fun y _ => y = .lst true 1 (xs.map strA)) := by
 refine VCalls.go (nt := 8) (keep := [0, 2, 4]) (muts := []) (mvs := []) [] f138_at rfl (by kernel_rfl) rfl (by kernel_rfl) rfl (fun i h => by cases h) rfl ?_
 intro hok
 simp only [go_sem] at hok
 simp only [Tryz.f138, Func.code, Option.getD_some]
 simp only [go_sem]
 intro b hb
 first | refine branch_ndec (fun h => ?_) (fun h => ?_) | refine branch_dec (fun h => ?_) (fun h => ?_) | refine branch_nbool (fun h => ?_) (fun h => ?_) | refine branch_split (fun h => ?_) (fun h => ?_)
 ·simp only [go_sem]
  have h0 : xs = [] := List.eq_nil_of_length_eq_zero (Nat.eq_zero_of_not_pos fun h1 => by rw [hb h1] at h; cases h)
  subst h0
  simp only [go_sem]
 ·simp only [go_sem]
  exact ⟨by omega, by omega⟩
end Go.VS
set_option linter.unusedSimpArgs false
set_option linter.unusedVariables false
open Go.Proofs
set_option maxRecDepth 20000
namespace Go.VS
theorem f122_at : gz.P.funcs[122]? = some Tryz.f122 := by
 have h : Tryz.prog.funcs[122]? = some Tryz.f122 := by kernel_rfl
 exact h
theorem f120_at : gz.P.funcs[120]? = some Tryz.f120 := by
 have h : Tryz.prog.funcs[120]? = some Tryz.f120 := by kernel_rfl
 exact h
theorem f121_at : gz.P.funcs[121]? = some Tryz.f121 := by
 have h : Tryz.prog.funcs[121]? = some Tryz.f121 := by kernel_rfl
 exact h
theorem f117_at : gz.P.funcs[117]? = some Tryz.f117 := by
 have h : Tryz.prog.funcs[117]? = some Tryz.f117 := by kernel_rfl
 exact h
theorem f119_at : gz.P.funcs[119]? = some Tryz.f119 := by
 have h : Tryz.prog.funcs[119]? = some Tryz.f119 := by kernel_rfl
 exact h
theorem f118_at : gz.P.funcs[118]? = some Tryz.f118 := by
 have h : Tryz.prog.funcs[118]? = some Tryz.f118 := by kernel_rfl
 exact h
theorem ok122 (xs : List Int) (hx : xs.length * 8 <= 140737488355328) : VCalls gz 122 [.lst false 1 (xs.map intA)] none (fun y _ => y = .lst true 1 (xs.map intA)) := by
 refine VCalls.go (nt := 8) (keep := [0, 2, 4]) (muts := []) (mvs := []) [] f122_at rfl (by kernel_rfl) rfl (by kernel_rfl) rfl (fun i h => by cases h) rfl ?_
 intro hok
 simp only [go_sem] at hok
 simp only [Tryz.f122, Func.code, Option.getD_some]
 simp only [go_sem]
 intro b hb
 first | refine branch_ndec (fun h => ?_) (fun h => ?_) | refine branch_dec (fun h => ?_) (fun h => ?_) | refine branch_nbool (fun h => ?_) (fun h => ?_) | refine branch_split (fun h => ?_) (fun h => ?_)
 ·simp only [go_sem]
  have h0 : xs = [] := List.eq_nil_of_length_eq_zero (Nat.eq_zero_of_not_pos fun h1 => by rw [hb h1] at h; cases h)
  subst h0
  simp only [go_sem]
 ·simp only [go_sem]
  exact ⟨by omega, by omega⟩
theorem ok120 (xs : List Vot) (hx : xs.length * 32 <= 140737488355328) : VCalls gz 120 [.lst false 4 (xs.map Vot.enc)] none (fun y _ => y = .lst true 4 (xs.map Vot.enc)) := by
 refine VCalls.go (nt := 8) (keep := [0, 2, 4]) (muts := []) (mvs := []) [] f120_at rfl (by kernel_rfl) rfl (by kernel_rfl) rfl (fun i h => by cases h) rfl ?_
 intro hok
 simp only [go_sem] at hok
 simp only [Tryz.f120, Func.code, Option.getD_some]
 simp only [go_sem]
 intro b hb
 first | refine branch_ndec (fun h => ?_) (fun h => ?_) | refine branch_dec (fun h => ?_) (fun h => ?_) | refine branch_nbool (fun h => ?_) (fun h => ?_) | refine branch_split (fun h => ?_) (fun h => ?_)
 ·simp only [go_sem]
  have h0 : xs = [] := List.eq_nil_of_length_eq_zero (Nat.eq_zero_of_not_pos fun h1 => by rw [hb h1] at h; cases h)
  subst h0
  simp only [go_sem]
 ·simp only [go_sem]
  exact ⟨by omega, by omega⟩
theorem ok121 (xs : List Nws) (hx : xs.length * 16 <= 140737488355328) : VCalls gz 121 [.lst false 2 (xs.map Nws.enc)] none (fun y _ => y = .lst true 2 (xs.map Nws.enc)) := by
 refine VCalls.go (nt := 8) (keep := [0, 2, 4]) (muts := []) (mvs := []) [] f121_at rfl (by kernel_rfl) rfl (by kernel_rfl) rfl (fun i h => by cases h) rfl ?_
 intro hok
 simp only [go_sem] at hok
 simp only [Tryz.f121, Func.code, Option.getD_some]
 simp only [go_sem]
 intro b hb
 first | refine branch_ndec (fun h => ?_) (fun h => ?_) | refine branch_dec (fun h => ?_) (fun h => ?_) | refine branch_nbool (fun h => ?_) (fun h => ?_) | refine branch_split (fun h => ?_) (fun h => ?_)
 ·simp only [go_sem]
  have h0 : xs = [] := List.eq_nil_of_length_eq_zero (Nat.eq_zero_of_not_pos fun h1 => by rw [hb h1] at h; cases h)
  subst h0
  simp only [go_sem]
 ·simp only [go_sem]
  exact ⟨by omega, by omega⟩
theorem ok117 (p : Prf) (hp : p.sz <= 1048576) : VCalls gz 117 [p.enc false] none (fun y _ => y = p.enc true) := by
 have hp2 : p.bys.length + p.tags.length <= 1048576 := hp
 refine VCalls.go (nt := 12) (keep := [0, 1, 2]) (muts := []) (mvs := [1,2]) [(1, .tree false (.take 0 (.take 3 (.all (.cons 1 (.all (.cons 2 (.all (.cons 4 (.take 6 (.all (.cons 5 (.all (.cons 7 (.take 8 (.all (.cons 9 .done .nil))) .nil)) .nil))) .nil)) (.cons 4 (.all (.cons 2 (.take 6 (.all (.cons 5 (.all (.cons 7 (.take 8 (.all (.cons 9 .done .nil))) .nil)) .nil))) .nil)) .nil))) (.cons 4 (.all (.cons 1 (.all (.cons 2 (.take 6 (.all (.cons 5 (.all (.cons 7 (.take 8 (.all (.cons 9 .done .nil))) .nil)) .nil))) .nil)) .nil)) .nil))))))] f117_at rfl (by kernel_rfl) rfl (by kernel_rfl) rfl (fun i h => by cases h) rfl ?_
 intro hok
 simp only [go_sem] at hok
 simp only [Tryz.f117, Func.code, Option.getD_some]
 simp only [go_sem]
 repeat' refine And.intro ?_ ?_
 all_goals
  refine call_lend ?_
  simp only [go_sem]
  refine callN.eq (ok122 p.bys (by omega)) (by simp only [go_sem]) ?_
  simp only [go_sem]
  refine call_lend ?_
  simp only [go_sem]
  refine callN.eq (ok122 p.tags (by omega)) (by simp only [go_sem]) ?_
  simp only [go_sem]
theorem ok119 (b : Blk) (hb : b.sz <= 1048576) : VCalls gz 119 [b.enc false] none (fun y _ => y = b.enc true) := by
 have hb2 : b.proof.sz + szL ByteArray.size b.moves <= 1048576 := hb
 simp only [szL] at hb2
 refine VCalls.go (nt := 12) (keep := [0, 1, 2]) (muts := []) (mvs := [1,3]) [] f119_at rfl (by kernel_rfl) rfl (by kernel_rfl) rfl (fun i h => by cases h) rfl ?_
 intro hok
 simp only [go_sem] at hok
 simp only [Tryz.f119, Func.code, Option.getD_some]
 simp only [go_sem]
 refine call_lend ?_
 simp only [go_sem]
 refine callN.eq (ok117 b.proof (by omega)) (by simp only [go_sem]) ?_
 simp only [go_sem]
 refine call_lend ?_
 simp only [go_sem]
 refine callN.eq (ok138 b.moves (by omega)) (by simp only [go_sem]) ?_
 simp only [go_sem]
theorem ok118 (xs : List Blk) (hx : xs.length * 112 <= 140737488355328) : VCalls gz 118 [.lst false 8 (xs.map (Blk.enc false))] none (fun y _ => y = .lst true 8 (xs.map (Blk.enc false))) := by
 refine VCalls.go (nt := 8) (keep := [0, 2, 4]) (muts := []) (mvs := []) [] f118_at rfl (by kernel_rfl) rfl (by kernel_rfl) rfl (fun i h => by cases h) rfl ?_
 intro hok
 simp only [go_sem] at hok
 simp only [Tryz.f118, Func.code, Option.getD_some]
 simp only [go_sem]
 intro b hb
 first | refine branch_ndec (fun h => ?_) (fun h => ?_) | refine branch_dec (fun h => ?_) (fun h => ?_) | refine branch_nbool (fun h => ?_) (fun h => ?_) | refine branch_split (fun h => ?_) (fun h => ?_)
 ·simp only [go_sem]
  have h0 : xs = [] := List.eq_nil_of_length_eq_zero (Nat.eq_zero_of_not_pos fun h1 => by rw [hb h1] at h; cases h)
  subst h0
  simp only [go_sem]
 ·simp only [go_sem]
  exact ⟨by omega, by omega⟩
end Go.VS
set_option linter.unusedSimpArgs false
set_option linter.unusedVariables false
open Go.Proofs
set_option maxRecDepth 20000
namespace Go.VS
theorem f89_at : gz.P.funcs[89]? = some Tryz.f89 := by
 have h : Tryz.prog.funcs[89]? = some Tryz.f89 := by kernel_rfl
 exact h
def encP (q : Bool × Blk) : AVal := q.2.enc q.1
theorem encP_eq {q : Bool × Blk} : encP q = q.2.enc q.1 := nr rfl
attribute [go_sem] encP_eq
def mixL (xs : List Blk) (i : Nat) : List (Bool × Blk) := (xs.take i).map (fun b => (true, b)) ++ (xs.drop i).map (fun b => (false, b))
theorem mixL_zero {xs : List Blk} : (mixL xs 0).map encP = xs.map (Blk.enc false) := by
 simp only [mixL, List.take_zero, List.map_nil, List.nil_append, List.drop_zero, List.map_map]
 rfl
theorem mixL_all {xs : List Blk} : (mixL xs xs.length).map encP = xs.map (Blk.enc true) := by
 simp only [mixL, List.take_length, List.drop_length, List.map_nil, List.append_nil, List.map_map]
 rfl
theorem mixL_len {xs : List Blk} {i : Nat} (h : i <= xs.length) : (mixL xs i).length = xs.length := by
 simp only [mixL, List.length_append, List.length_map, List.length_take, List.length_drop]
 omega
theorem mixL_get {xs : List Blk} {i : Nat} (h : i < xs.length) : (mixL xs i).getD i default = (false, xs.getD i default) := by
 simp only [mixL, List.getD]
 rw [List.getElem?_append_right (by simp only [List.length_map, List.length_take]; omega)]
 simp only [List.length_map, List.length_take, Nat.min_eq_left (Nat.le_of_lt h), Nat.sub_self, List.getElem?_map, List.getElem?_drop, Nat.add_zero, List.getElem?_eq_getElem h, Option.map_some, Option.getD_some]
theorem mixL_set {xs : List Blk} {i : Nat} (h : i < xs.length) : (mixL xs i).set i (true, xs.getD i default) = mixL xs (i + 1) := by
 have hd : xs.drop i = xs.getD i default :: xs.drop (i + 1) := by
  rw [List.drop_eq_getElem_cons h]
  simp [List.getD, h]
 have hl : ((xs.take i).map (fun b => (true, b))).length = i := by simp only [List.length_map, List.length_take]; omega
 rw [mixL, hd, List.map_cons, List.set_append_right _ _ (by omega), hl, Nat.sub_self, List.set_cons_zero, mixL, take_succ_getD h, List.map_append, List.append_assoc]
 rfl
def Rpl.hold (r : Rpl) : Prop := r.high.sz <= 1048576 /\ r.blocks.length <= 1048576 /\ (∀ i, i < r.blocks.length -> Blk.sz (r.blocks.getD i default) <= 1048576) /\ r.votes.length <= 1048576 /\ r.news.length <= 1048576 /\ r.done.length <= 1048576
set_option maxHeartbeats 2000000 in
theorem ok89 (r : Rpl) (hr : r.hold) : VCalls gz 89 [r.enc false] none (fun y _ => y = r.enc true) := by
 obtain ⟨g1, g2, g3, g4, g5, g6⟩ := hr
 refine VCalls.go (nt := 42) (keep := [0, 1, 2, 3, 14, 15, 16]) (muts := []) (mvs := [1,2,6,8,9,10,11]) [(6, .tree false (.take 0 (.take 2 (.take 3 (.take 5 (.all (.cons 1 (.all (.cons 4 (.take 6 (.all (.cons 7 (.all (.cons 8 (.take 9 (.all (.cons 10 .done .nil))) .nil)) .nil))) .nil)) (.cons 4 (.take 6 (.all (.cons 1 (.all (.cons 7 (.all (.cons 8 (.take 9 (.all (.cons 10 .done .nil))) .nil)) .nil)) (.cons 7 (.all (.cons 1 (.all (.cons 8 (.take 9 (.all (.cons 10 .done .nil))) .nil)) (.cons 8 (.all (.cons 1 (.take 9 (.all (.cons 10 .done .nil))) .nil)) .nil))) .nil)))) .nil))))))))] f89_at rfl (by kernel_rfl) rfl (by kernel_rfl) rfl (fun i h => by cases h) rfl ?_
 intro hok
 simp only [go_sem] at hok
 simp only [Tryz.f89, Func.code, Option.getD_some]
 simp only [go_sem]
 refine call_lend ?_
 simp only [go_sem]
 refine callN.eq (ok117 r.high g1) (by simp only [go_sem]) ?_
 simp only [go_sem]
 refine call_share ?_
 simp only [go_sem]
 refine callS.eq (ok118 r.blocks (by omega)) ?_
 simp only [go_sem]
 intro hm
 refine vm_loopK (α := Nat) (fun i => [(1, .ptr true (.agg [.lit (.int .i64 r.id), .lit (.int .i64 r.n), .lit (.int .i64 r.view), .lit (.int .i64 r.voted), .lit (.int .i64 r.locked), .lit (.int .i64 r.proposed), r.high.enc true, .lst true 8 ((mixL r.blocks i).map encP), .lst false 4 (r.votes.map Vot.enc), .lst false 2 (r.news.map Nws.enc), .lst false 1 (r.done.map intA)])), (2, .ptr true (Rpl.enc true ⟨0, 0, 0, 0, 0, 0, default, [], [], [], []⟩)), (14, .lit (.int .i64 r.blocks.length)), (15, .lit (.int .i64 i))]) (fun i => i <= r.blocks.length) (fun i => r.blocks.length - i) 0 ?_ (by omega) (by kernel_rfl) (fun _ => rfl) ?_
 ·simp only [go_sem]
  exact ⟨mixL_zero.symm, ⟨rfl, rfl, rfl, rfl⟩, rfl⟩
 ·intro i hi hk
  simp only [go_sem]
  first | refine branch_ndec (fun h6 => ?_) (fun h6 => ?_) | refine branch_dec (fun h6 => ?_) (fun h6 => ?_) | refine branch_nbool (fun h6 => ?_) (fun h6 => ?_) | refine branch_split (fun h6 => ?_) (fun h6 => ?_)
  ·have hlt : i < r.blocks.length := by omega
   have h0 : (0 : Int) <= (i : Int) := by omega
   have hml := mixL_len hi
   have hg := mixL_get hlt
   have h7 : (i : Int) < ((mixL r.blocks i).length : Int) := by omega
   have h8 : i < (mixL r.blocks i).length := by omega
   have hw3 : IntKind.i64.wrap ((i : Int) + 1) = ((i + 1 : Nat) : Int) := by rw [wrap64 (by omega) (by omega)]; omega
   simp only [go_sem, h0, h7, h8, hg]
   repeat' refine And.intro ?_ ?_
   all_goals
    refine call_lend ?_
    simp only [go_sem]
    refine callN.eq (ok119 (r.blocks.getD i default) (g3 i hlt)) (by simp only [go_sem]) ?_
    simp only [go_sem]
    simp only [go_sem, h0, h7, h8, hg, hw3]
    refine again_intro (i + 1) (by omega) (by omega) ?_
    simp only [go_sem]
    exact (modify_enc (f := encP) (v := (true, r.blocks.getD i default)) rfl).trans (by rw [mixL_set hlt])
  ·have hie : i = r.blocks.length := by omega
   subst hie
   simp only [go_sem, mixL_all]
   refine call_lend ?_
   simp only [go_sem]
   refine callN.eq (ok120 r.votes (by omega)) (by simp only [go_sem]) ?_
   simp only [go_sem]
   refine call_lend ?_
   simp only [go_sem]
   refine callN.eq (ok121 r.news (by omega)) (by simp only [go_sem]) ?_
   simp only [go_sem]
   refine call_lend ?_
   simp only [go_sem]
   refine callN.eq (ok122 r.done (by omega)) (by simp only [go_sem]) ?_
   simp only [go_sem]
end Go.VS
set_option linter.unusedSimpArgs false
set_option linter.unusedVariables false
open Go.Proofs Go.RowKit
set_option maxRecDepth 20000
namespace Go.VS
theorem at161 : gz.P.funcs[161]? = some Tryz.f161 := by
 have h : Tryz.prog.funcs[161]? = some Tryz.f161 := by kernel_rfl
 exact h
def itoaB (n : Int) : ByteArray := ⟨(Lib.itoa n).toArray⟩
theorem itoaB_size (n : Int) (h : -9223372036854775808 <= n /\ n <= 9223372036854775807) : (itoaB n).size <= 21 := by
 have := Lib.itoa_length_le n h.1 h.2
 simpa [itoaB, ByteArray.size] using this
theorem lit_rng {n : Int} (h : litOk (.int .i64 n)) : -9223372036854775808 <= n /\ n <= 9223372036854775807 := by
 simpa [litOk, IntKind.min, IntKind.max, IntKind.bits, IntKind.signed] using h
theorem ok161 (n : Int) : VCalls gz 161 [.lit (.int .i64 n), .lit (.int .i64 10)] none (fun y _ => y = .lit (.string (itoaB n))) := by
 refine VCalls.of_bare (enterC at161 (by kernel_rfl) (by kernel_rfl)) rfl fun w S args hsz hg hS hrep => ?_
 obtain ⟨v0, v1, rfl⟩ : ∃ v0 v1, args = #[v0, v1] := by
  match args, hsz with
  | ⟨[v0, v1]⟩, _ => exact ⟨v0, v1, rfl⟩
 obtain ⟨rfl, h0⟩ := (hrep 0 v0 _ rfl rfl).lit
 obtain ⟨rfl, _⟩ := (hrep 1 v1 _ rfl rfl).lit
 have hr := lit_rng h0
 refine (Tryz.internal_strconv_FormatInt_10 n hr.1 hr.2 w (GlTab hg)).mono ?_
 rintro e w' ⟨rfl, k, os, rfl⟩
 exact ⟨⟨_, rfl, .str (by have := itoaB_size n hr; simp only [maxLen]; unfold itoaB at this; omega)⟩, below_growN _ _ _⟩
end Go.VS
set_option linter.unusedSimpArgs false
set_option linter.unusedVariables false
open Go.Proofs
set_option maxRecDepth 20000
namespace Go.VS
theorem f153_at : gz.P.funcs[153]? = some Tryz.f153 := by
 have h : Tryz.prog.funcs[153]? = some Tryz.f153 := by kernel_rfl
 exact h
theorem f137_at : gz.P.funcs[137]? = some Tryz.f137 := by
 have h : Tryz.prog.funcs[137]? = some Tryz.f137 := by kernel_rfl
 exact h
theorem f101_at : gz.P.funcs[101]? = some Tryz.f101 := by
 have h : Tryz.prog.funcs[101]? = some Tryz.f101 := by kernel_rfl
 exact h
theorem f124_at : gz.P.funcs[124]? = some Tryz.f124 := by
 have h : Tryz.prog.funcs[124]? = some Tryz.f124 := by kernel_rfl
 exact h
theorem f150_at : gz.P.funcs[150]? = some Tryz.f150 := by
 have h : Tryz.prog.funcs[150]? = some Tryz.f150 := by kernel_rfl
 exact h
theorem bsz (s : ByteArray) : s.size = s.data.toList.length := by rw [Array.length_toList]; rfl
theorem bext {s t : ByteArray} (h : s.data.toList = t.data.toList) : s = t := by
 cases s; cases t; simp only [ByteArray.mk.injEq]; exact Array.toList_inj.1 h
theorem ok153 (n : Int) : VCalls gz 153 [.lit (.int .i64 n), .lit (.int .i64 10)] none (fun y _ => y = .lit (.string (itoaB n))) := by
 refine VCalls.go (nt := 8) (keep := [0, 1, 4]) (muts := []) (mvs := []) [] f153_at rfl (by kernel_rfl) rfl (by kernel_rfl) rfl (fun i h => by cases h) rfl ?_
 intro hok
 simp only [go_sem] at hok
 simp only [Tryz.f153, Func.code, Option.getD_some]
 simp only [go_sem]
 refine call_lend ?_
 simp only [go_sem]
 refine callN.eq (ok161 n) (by simp only [go_sem]) ?_
 simp only [go_sem]
theorem ok137 (n : Int) : VCalls gz 137 [.lit (.int .i64 n)] none (fun y _ => y = .lit (.string (itoaB n))) := by
 refine VCalls.go (nt := 5) (keep := [0, 2]) (muts := []) (mvs := []) [] f137_at rfl (by kernel_rfl) rfl (by kernel_rfl) rfl (fun i h => by cases h) rfl ?_
 intro hok
 simp only [go_sem] at hok
 simp only [Tryz.f137, Func.code, Option.getD_some]
 simp only [go_sem]
 refine call_lend ?_
 simp only [go_sem]
 refine callN.eq (ok153 n) (by simp only [go_sem]) ?_
 simp only [go_sem]
def digN (s : ByteArray) : Nat -> Int
 | 0 => 1
 | n + 1 => (digN s n * 1000003 + ((s.data.toList.getD n 0).toNat : Int) + 1).tmod 2147483647
theorem digN_rng (s : ByteArray) : ∀ n, 0 <= digN s n /\ digN s n < 2147483647
 | 0 => by simp [digN]
 | n + 1 => by
  have h := digN_rng s n
  have h2 : 0 <= digN s n * 1000003 + ((s.data.toList.getD n 0).toNat : Int) + 1 := by omega
  unfold digN
  rw [Int.tmod_eq_emod_of_nonneg h2]
  omega
def dig (s : ByteArray) : Int := digN s s.size
theorem u8_lt (c : UInt8) : c.toNat < 256 := c.toNat_lt
theorem ok101 (s : ByteArray) : VCalls gz 101 [.lit (.string s)] none (fun y _ => y = .lit (.int .i64 (dig s))) := by
 refine VCalls.go (nt := 21) (keep := [0, 2, 3, 4, 8]) (muts := []) (mvs := []) [] f101_at rfl (by kernel_rfl) rfl (by kernel_rfl) rfl (fun i h => by cases h) rfl ?_
 intro hok
 simp only [go_sem] at hok
 simp only [Tryz.f101, Func.code, Option.getD_some]
 simp only [go_sem]
 refine vm_loopK (α := Nat) (fun i => [(0, .lit (.string s)), (3, .lit (.int .i64 (digN s i))), (4, .lit (.int .i64 i))]) (fun i => i <= s.size) (fun i => s.size - i) 0 ?_ (by simp) (by kernel_rfl) (fun _ => rfl) ?_
 ·simp only [go_sem]
  exact ⟨rfl, rfl⟩
 ·intro i hi hk
  simp only [go_sem]
  intro hm
  first | refine branch_ndec (fun h => ?_) (fun h => ?_) | refine branch_dec (fun h => ?_) (fun h => ?_) | refine branch_nbool (fun h => ?_) (fun h => ?_) | refine branch_split (fun h => ?_) (fun h => ?_)
  ·have hlt : i < s.size := by omega
   have h0 : (0 : Int) <= (i : Int) := by omega
   have hd := digN_rng s i
   have hc := u8_lt (s.data.toList.getD i 0)
   simp only [go_sem, h0, h, hlt]
   simp (disch := omega) only [wrap64, wrapU64, wrapU32, wrapU8]
   refine again_intro (i + 1) (by omega) (by omega) ?_
   simp only [go_sem]
   refine ⟨by simp only [digN], by omega⟩
  ·simp only [go_sem]
   have : i = s.size := by omega
   subst this
   rfl
theorem ok124 (s : ByteArray) : VCalls gz 124 [.lit (.string s)] none (fun y _ => y = .lit (.int .i64 (dig s))) := by
 refine VCalls.go (nt := 21) (keep := [0, 2, 3, 4, 6, 7, 8]) (muts := []) (mvs := []) [] f124_at rfl (by kernel_rfl) rfl (by kernel_rfl) rfl (fun i h => by cases h) rfl ?_
 intro hok
 simp only [go_sem] at hok
 simp only [Tryz.f124, Func.code, Option.getD_some]
 simp only [go_sem]
 intro hl
 refine vm_loopK (α := Nat) (fun i => [(0, .lit (.string s)), (3, .lit (.int .i64 (digN s i))), (6, .lit (.int .i64 s.size)), (7, .lit (.int .i64 i))]) (fun i => i <= s.size) (fun i => s.size - i) 0 ?_ (by simp) (by kernel_rfl) (fun _ => rfl) ?_
 ·simp only [go_sem]
  exact ⟨rfl, rfl⟩
 ·intro i hi hk
  simp only [go_sem]
  first | refine branch_ndec (fun h => ?_) (fun h => ?_) | refine branch_dec (fun h => ?_) (fun h => ?_) | refine branch_nbool (fun h => ?_) (fun h => ?_) | refine branch_split (fun h => ?_) (fun h => ?_)
  ·have hlt : i < s.size := by omega
   have h0 : (0 : Int) <= (i : Int) := by omega
   have hd := digN_rng s i
   have hc := u8_lt (s.data.toList.getD i 0)
   simp only [go_sem, h0, h, hlt]
   simp (disch := omega) only [wrap64, wrapU64, wrapU32, wrapU8]
   refine again_intro (i + 1) (by omega) (by omega) ?_
   simp only [go_sem]
   refine ⟨by simp only [digN], by omega⟩
  ·simp only [go_sem]
   have : i = s.size := by omega
   subst this
   rfl
end Go.VS
set_option linter.unusedSimpArgs false
set_option linter.unusedVariables false
open Go.Proofs
set_option maxRecDepth 20000
namespace Go.VS
def WInv (n m : Int) (s : ByteArray) : Prop := (0 <= n -> 0 <= m) /\ (n < 0 -> m <= 0) /\ m.natAbs <= n.natAbs /\ ((s = ByteArray.empty /\ m = n) \/ (s.size ≠ 0 /\ Lib.decDigits n.natAbs = (if m = 0 then [] else Lib.decDigits m.natAbs) ++ s.data.toList))
theorem decDigits_step (u : Nat) : Lib.decDigits u = (if u / 10 = 0 then [] else Lib.decDigits (u / 10)) ++ [UInt8.ofNat (48 + u % 10)] := by
 rw [Lib.decDigits]
 split
 ·rw [if_pos (by omega), Nat.mod_eq_of_lt (by omega)]; rfl
 ·rw [if_neg (by omega)]
theorem WInv.step {n m : Int} {s t : ByteArray} (h : WInv n m s) (hm : s = ByteArray.empty \/ m ≠ 0) (d : UInt8) (hd : d = UInt8.ofNat (48 + m.natAbs % 10)) (ht : t.data.toList = d :: s.data.toList) : WInv n (m.tdiv 10) t := by
 obtain ⟨h1, h2, h3, h4⟩ := h
 have e1 : (m.tdiv 10).natAbs = m.natAbs / 10 := by rw [Int.natAbs_tdiv]; rfl
 refine ⟨fun h => ?_, fun h => ?_, by omega, .inr ⟨?_, ?_⟩⟩
 ·exact Int.tdiv_nonneg (h1 h) (by omega)
 ·have := h2 h
  have h5 : 0 <= (-m).tdiv 10 := Int.tdiv_nonneg (by omega) (by omega)
  rw [Int.neg_tdiv] at h5
  omega
 ·have : t.data.toList.length ≠ 0 := by rw [ht]; simp
  rw [bsz]; exact this
 ·have e2 : (m.tdiv 10 = 0) ↔ m.natAbs / 10 = 0 := by omega
  have key : Lib.decDigits n.natAbs = Lib.decDigits m.natAbs ++ s.data.toList := by
   rcases h4 with ⟨rfl, rfl⟩ | ⟨h5, h6⟩
   ·simp
   ·rcases hm with rfl | hm
    ·exact absurd rfl h5
    ·rw [if_neg hm] at h6; exact h6
  rw [key, decDigits_step, e1, ht, hd, ite_congr (propext e2) (fun _ => rfl) (fun _ => rfl)]
  simp
theorem WInv.size {n m : Int} {s : ByteArray} (h : WInv n m s) (hn : -9223372036854775808 <= n /\ n <= 9223372036854775807) : s.size <= 20 := by
 obtain ⟨h1, h2, h3, h4⟩ := h
 rcases h4 with ⟨rfl, rfl⟩ | ⟨_, h6⟩
 ·simp
 ·have h7 := congrArg List.length h6
  rw [Lib.decDigits_length, List.length_append] at h7
  have := Lib.nDigits_le20 n.natAbs (by omega)
  have := bsz s
  omega
theorem WInv.done {n : Int} {s : ByteArray} (h : WInv n 0 s) (hs : s ≠ ByteArray.empty) : Lib.decDigits n.natAbs = s.data.toList := by
 obtain ⟨h1, h2, h3, h4⟩ := h
 rcases h4 with ⟨rfl, rfl⟩ | ⟨_, h6⟩
 ·exact absurd rfl hs
 ·simpa using h6
theorem strOfA_one {n : Int} : strOfA [.lit (.int .u8 n)] = some [UInt8.ofNat n.toNat] := nr rfl
attribute [go_sem] strOfA_one
theorem digit_byte {m k : Int} (hk : k = if m.tmod 10 < 0 then IntKind.i64.wrap (0 - m.tmod 10) else m.tmod 10) : UInt8.ofNat (IntKind.u8.wrap (IntKind.i64.wrap (48 + k))).toNat = UInt8.ofNat (48 + m.natAbs % 10) := by
 have h1 : k = ((m.natAbs % 10 : Nat) : Int) := by
  have h2 : (m.tmod 10).natAbs = m.natAbs % 10 := by rw [Int.natAbs_tmod]; rfl
  rw [hk]
  split
  ·rw [wrap64 (by omega) (by omega)]; omega
  ·omega
 rw [h1]
 simp (disch := omega) only [wrap64, wrapU64, wrapU32, wrapU8]
 congr 1
theorem str_cons (b : UInt8) (s : ByteArray) : ((⟨[b].toArray⟩ : ByteArray) ++ s).data.toList = b :: s.data.toList := by
 rw [ByteArray.data_append, Array.toList_append]; rfl
theorem ok150 (n : Int) : VCalls gz 150 [.lit (.int .i64 n)] none (fun y _ => y = .lit (.string (itoaB n))) := by
 refine VCalls.go (nt := 33) (keep := [0, 2, 3, 4, 5, 13, 17, 29]) (muts := []) (mvs := []) [] f150_at rfl (by kernel_rfl) rfl (by kernel_rfl) rfl (fun i h => by cases h) rfl ?_
 intro hok
 simp only [go_sem] at hok
 simp only [Tryz.f150, Func.code, Option.getD_some]
 simp only [go_sem]
 refine vm_loopK (α := Int × ByteArray) (fun q => [(0, .lit (.int .i64 q.1)), (3, .lit (.string q.2)), (4, .lit (.bool (decide (n < 0))))]) (fun q => WInv n q.1 q.2) (fun q => if q.2 = ByteArray.empty then n.natAbs + 1 else q.1.natAbs) (n, ByteArray.empty) ?_ ⟨fun h => h, fun h => by omega, Nat.le_refl _, .inl ⟨rfl, rfl⟩⟩ (by kernel_rfl) (fun _ => rfl) ?_
 ·simp only [go_sem]
  trivial
 ·rintro ⟨m, s⟩ hi hk
  simp only at hi
  simp only [go_sem]
  have hs := WInv.size hi hok
  have hm1 := hi.2.2.1
  have ht : (m.tdiv 10).natAbs = m.natAbs / 10 := by rw [Int.natAbs_tdiv]; rfl
  have hz : (⟨[UInt8.ofNat (48 + m.natAbs % 10)].toArray⟩ : ByteArray).size = 1 := rfl
  have hcm : s = ByteArray.empty \/ m ≠ 0 -> WInv n (m.tdiv 10) ((⟨[UInt8.ofNat (48 + m.natAbs % 10)].toArray⟩ : ByteArray) ++ s) := fun h => hi.step h _ rfl (str_cons _ _)
  have hne : ((⟨[UInt8.ofNat (48 + m.natAbs % 10)].toArray⟩ : ByteArray) ++ s) ≠ ByteArray.empty := fun h => by
   have := congrArg ByteArray.size h
   rw [ByteArray.size_append, hz] at this
   simp at this
  have hdone : ¬ s = ByteArray.empty -> m = 0 -> (if decide (n < 0) = true then ⟨[45].toArray⟩ ++ s else s) = itoaB n := fun h1 h2 => by
   subst h2
   have := hi.done h1
   apply bext
   unfold itoaB Lib.itoa
   by_cases hn : n < 0
   ·simp only [hn, decide_true, if_true]
    rw [str_cons]
    simp only [this]
   ·simp only [hn, decide_false, if_false]
    have e : n.toNat = n.natAbs := by omega
    simp only [e, this]
    rfl
  first | refine gj_ndec (fun h => ?_) (fun h => ?_) | refine gj_dec (fun h => ?_) (fun h => ?_) | refine gj_nbool (fun h => ?_) (fun h => ?_) | refine gj_bool (fun h => ?_) (fun h => ?_)
  ·simp only [go_sem, eq_true h]
   have hmu : (if (⟨[UInt8.ofNat (48 + m.natAbs % 10)].toArray⟩ : ByteArray) ++ s = ByteArray.empty then n.natAbs + 1 else (m.tdiv 10).natAbs) < (if s = ByteArray.empty then n.natAbs + 1 else m.natAbs) := by
    rw [if_neg hne, if_pos (show s = ByteArray.empty from h)]
    have := hi.2.2.1
    omega
   first | refine branch_ndec (fun h1 => ?_) (fun h1 => ?_) | refine branch_dec (fun h1 => ?_) (fun h1 => ?_) | refine branch_nbool (fun h1 => ?_) (fun h1 => ?_) | refine branch_split (fun h1 => ?_) (fun h1 => ?_)
   ·simp only [go_sem]
    have hb := digit_byte (m := m) (k := IntKind.i64.wrap (0 - m.tmod 10)) (by simp only [h1, if_true, if_false])
    have hw : IntKind.i64.wrap (m.tdiv 10) = m.tdiv 10 := wrap64 (by omega) (by omega)
    rw [hw, hb]
    have h0 := hcm (.inl h)
    refine ⟨by have : s.size <= 20 := hs
               show 1 + s.size <= 9223372036854775807
               omega, again_intro (m.tdiv 10, (⟨[UInt8.ofNat (48 + m.natAbs % 10)].toArray⟩ : ByteArray) ++ s) h0 hmu ?_⟩
    simp only [go_sem]
   ·simp only [go_sem]
    have hb := digit_byte (m := m) (k := m.tmod 10) (by simp only [h1, if_true, if_false])
    have hw : IntKind.i64.wrap (m.tdiv 10) = m.tdiv 10 := wrap64 (by omega) (by omega)
    rw [hw, hb]
    have h0 := hcm (.inl h)
    refine ⟨by have : s.size <= 20 := hs
               show 1 + s.size <= 9223372036854775807
               omega, again_intro (m.tdiv 10, (⟨[UInt8.ofNat (48 + m.natAbs % 10)].toArray⟩ : ByteArray) ++ s) h0 hmu ?_⟩
    simp only [go_sem]
  ·simp only [go_sem, h]
   first | refine branch_ndec (fun h2 => ?_) (fun h2 => ?_) | refine branch_dec (fun h2 => ?_) (fun h2 => ?_) | refine branch_nbool (fun h2 => ?_) (fun h2 => ?_) | refine branch_split (fun h2 => ?_) (fun h2 => ?_)
   ·simp only [go_sem]
    have hf := hdone h h2
    first | refine branch_ndec (fun h3 => ?_) (fun h3 => ?_) | refine branch_dec (fun h3 => ?_) (fun h3 => ?_) | refine branch_nbool (fun h3 => ?_) (fun h3 => ?_) | refine branch_split (fun h3 => ?_) (fun h3 => ?_)
    ·simp only [go_sem]
     rw [if_pos (by simpa using h3)] at hf
     exact ⟨by show 1 + s.size <= 9223372036854775807
               omega, hf⟩
    ·simp only [go_sem]
     rw [if_neg (by simpa using h3)] at hf
     exact hf
   ·have hmu : (if (⟨[UInt8.ofNat (48 + m.natAbs % 10)].toArray⟩ : ByteArray) ++ s = ByteArray.empty then n.natAbs + 1 else (m.tdiv 10).natAbs) < (if s = ByteArray.empty then n.natAbs + 1 else m.natAbs) := by
     rw [if_neg hne, if_neg (show ¬ s = ByteArray.empty from h)]
     omega
    simp only [go_sem]
    first | refine branch_ndec (fun h1 => ?_) (fun h1 => ?_) | refine branch_dec (fun h1 => ?_) (fun h1 => ?_) | refine branch_nbool (fun h1 => ?_) (fun h1 => ?_) | refine branch_split (fun h1 => ?_) (fun h1 => ?_)
    ·simp only [go_sem]
     have hb := digit_byte (m := m) (k := IntKind.i64.wrap (0 - m.tmod 10)) (by simp only [h1, if_true, if_false])
     have hw : IntKind.i64.wrap (m.tdiv 10) = m.tdiv 10 := wrap64 (by omega) (by omega)
     rw [hw, hb]
     have h0 := hcm (.inr h2)
     refine ⟨by have : s.size <= 20 := hs
                show 1 + s.size <= 9223372036854775807
                omega, again_intro (m.tdiv 10, (⟨[UInt8.ofNat (48 + m.natAbs % 10)].toArray⟩ : ByteArray) ++ s) h0 hmu ?_⟩
     simp only [go_sem]
    ·simp only [go_sem]
     have hb := digit_byte (m := m) (k := m.tmod 10) (by simp only [h1, if_true, if_false])
     have hw : IntKind.i64.wrap (m.tdiv 10) = m.tdiv 10 := wrap64 (by omega) (by omega)
     rw [hw, hb]
     have h0 := hcm (.inr h2)
     refine ⟨by have : s.size <= 20 := hs
                show 1 + s.size <= 9223372036854775807
                omega, again_intro (m.tdiv 10, (⟨[UInt8.ofNat (48 + m.natAbs % 10)].toArray⟩ : ByteArray) ++ s) h0 hmu ?_⟩
     simp only [go_sem]
end Go.VS
set_option linter.unusedSimpArgs false
set_option linter.unusedVariables false
open Go.Proofs
set_option maxRecDepth 20000
namespace Go.VS
theorem f129_at : gz.P.funcs[129]? = some Tryz.f129 := by
 have h : Tryz.prog.funcs[129]? = some Tryz.f129 := by kernel_rfl
 exact h
theorem f140_at : gz.P.funcs[140]? = some Tryz.f140 := by
 have h : Tryz.prog.funcs[140]? = some Tryz.f140 := by kernel_rfl
 exact h
def numB (n : Nat) : List UInt8 := if h : n < 128 then [UInt8.ofNat n] else UInt8.ofNat (n % 128 + 128) :: numB (n / 128)
termination_by n
theorem numB_lt {n : Nat} (h : n < 128) : numB n = [UInt8.ofNat n] := by rw [numB, dif_pos h]
theorem numB_ge {n : Nat} (h : ¬ n < 128) : numB n = UInt8.ofNat (n % 128 + 128) :: numB (n / 128) := by rw [numB, dif_neg h]
theorem numB_len : ∀ (k n : Nat), n < 128 ^ (k + 1) -> (numB n).length <= k + 1
 | 0, n, h => by rw [numB_lt (by omega)]; simp
 | k + 1, n, h => by
  by_cases hn : n < 128
  ·rw [numB_lt hn]; simp
  ·rw [numB_ge hn]
   have := numB_len k (n / 128) (by rw [Nat.div_lt_iff_lt_mul (by omega)]; rw [Nat.pow_succ] at h; exact h)
   simp only [List.length_cons]
   omega
theorem numB_len9 {n : Nat} (h : n <= 4611686018427387904) : (numB n).length <= 9 := numB_len 8 n (by omega)
theorem orI_128 (m : Nat) : orI .u8 (IntKind.u8.wrap (m : Int)) 128 = ((m % 128 + 128 : Nat) : Int) := by
 have h : ∀ a : Fin 256, orI .u8 (a.val : Int) 128 = ((a.val % 128 + 128 : Nat) : Int) := by decide
 have h2 : IntKind.u8.wrap (m : Int) = ((m % 256 : Nat) : Int) := by
  simp [IntKind.wrap, IntKind.bits, IntKind.signed]
 rw [h2]
 have := h ⟨m % 256, by omega⟩
 rw [this]
 simp only
 omega
theorem shr_7 (m : Nat) : shrI .i64 (m : Int) 7 = ((m / 128 : Nat) : Int) := by
 have : shrI .i64 (m : Int) 7 = (m : Int).fdiv 128 := rfl
 rw [this, Int.fdiv_eq_ediv_of_nonneg _ (by omega)]
 omega
theorem u8_of {k : Nat} (h : k < 256) : (UInt8.ofNat k).toNat = k := by simp [UInt8.toNat_ofNat']; omega
theorem byteA_of {k : Nat} (h : k < 256) : byteA (UInt8.ofNat k) = .lit (.int .u8 k) := by
 have : (UInt8.ofNat k).toNat = k := by simp [UInt8.toNat_ofNat']; omega
 rw [byteA_eq, this]
theorem numB_step {pre : List UInt8} {m n : Nat} (he : pre ++ numB m = numB n) (hg : ¬ m < 128) : (pre ++ [UInt8.ofNat (m % 128 + 128)]) ++ numB (m / 128) = numB n := by
 rw [<- he, numB_ge hg, List.append_assoc]
 rfl
theorem ok129 (n : Nat) (hn : n <= 4611686018427387904) : VCalls gz 129 [.lit (.int .i64 n)] none (fun y _ => y = .lst true 1 ((numB n).map byteA)) := by
 refine VCalls.go (nt := 21) (keep := [0, 2, 3, 6]) (muts := []) (mvs := []) [] f129_at rfl (by kernel_rfl) rfl (by kernel_rfl) rfl (fun i h => by cases h) rfl ?_
 intro hok
 simp only [go_sem] at hok
 simp only [Tryz.f129, Func.code, Option.getD_some]
 simp only [go_sem]
 have hn9 := numB_len9 hn
 refine vm_loopK (α := List UInt8 × Nat) (fun q => [(0, .lit (.int .i64 q.2)), (3, .lst true 1 (q.1.map byteA))]) (fun q => q.1 ++ numB q.2 = numB n /\ q.2 <= n) (fun q => q.2) ([], n) ?_ ⟨rfl, Nat.le_refl _⟩ (by kernel_rfl) (fun _ => rfl) ?_
 ·simp only [go_sem]
  try trivial
 ·rintro ⟨pre, m⟩ ⟨he, hm⟩ hk
  simp only at he hm
  have hpl : pre.length <= 9 := by
   have := congrArg List.length he
   rw [List.length_append] at this
   omega
  simp only [go_sem]
  first | refine branch_ndec (fun h1 => ?_) (fun h1 => ?_) | refine branch_dec (fun h1 => ?_) (fun h1 => ?_) | refine branch_nbool (fun h1 => ?_) (fun h1 => ?_) | refine branch_split (fun h1 => ?_) (fun h1 => ?_)
  ·have e1 : IntKind.u8.wrap (IntKind.i64.wrap ((m : Int).tmod 128 + 128)) = ((m % 128 + 128 : Nat) : Int) := by
    rw [Int.tmod_eq_emod_of_nonneg (by omega), wrap64 (by omega) (by omega), wrapU8 (by omega) (by omega)]
    omega
   have e2 : IntKind.i64.wrap ((m : Int).tdiv 128) = ((m / 128 : Nat) : Int) := by
    rw [Int.tdiv_eq_ediv_of_nonneg (by omega), wrap64 (by omega) (by omega)]
    omega
   simp only [go_sem, e1, e2]
   refine ⟨by omega, ?_⟩
   refine again_intro (pre ++ [UInt8.ofNat (m % 128 + 128)], m / 128) ⟨numB_step he (by omega), by show m / 128 <= n; omega⟩ (by show m / 128 < m; omega) ?_
   simp only [go_sem]
   rw [u8_of (by omega)]
  ·have e1 : IntKind.u8.wrap (m : Int) = (m : Int) := wrapU8 (by omega) (by omega)
   simp only [go_sem, e1]
   refine ⟨by omega, ?_⟩
   rw [<- he, numB_lt (by omega), List.map_append, List.map_cons, List.map_nil, byteA_of (by omega)]
theorem ok140 (n : Nat) (hn : n <= 1099511627776) : VCalls gz 140 [.lit (.int .i64 n)] none (fun y _ => y = .lst true 1 ((numB n).map byteA)) := by
 refine VCalls.go (nt := 23) (keep := [0, 2, 3, 6, 9]) (muts := []) (mvs := []) [] f140_at rfl (by kernel_rfl) rfl (by kernel_rfl) rfl (fun i h => by cases h) rfl ?_
 intro hok
 simp only [go_sem] at hok
 simp only [Tryz.f140, Func.code, Option.getD_some]
 simp only [go_sem]
 have hn9 := numB_len9 (n := n) (by omega)
 have hin : 0 <= (n : Int) /\ (n : Int) <= 1099511627776 := by omega
 refine call_lend ?_
 simp only [go_sem]
 refine callN.eq (ok77 n 0 1099511627776) (by simp only [go_sem]) ?_
 simp only [go_sem]
 simp only [go_sem, eq_true hin]
 refine vm_loopK (α := List UInt8 × Nat) (fun q => [(0, .lit (.int .i64 q.2)), (3, .lst true 1 (q.1.map byteA))]) (fun q => q.1 ++ numB q.2 = numB n /\ q.2 <= n) (fun q => q.2) ([], n) ?_ ⟨rfl, Nat.le_refl _⟩ (by kernel_rfl) (fun _ => rfl) ?_
 ·simp only [go_sem]
  try trivial
 ·rintro ⟨pre, m⟩ ⟨he, hm⟩ hk
  simp only at he hm
  have hpl : pre.length <= 9 := by
   have := congrArg List.length he
   rw [List.length_append] at this
   omega
  simp only [go_sem]
  first | refine branch_ndec (fun h1 => ?_) (fun h1 => ?_) | refine branch_dec (fun h1 => ?_) (fun h1 => ?_) | refine branch_nbool (fun h1 => ?_) (fun h1 => ?_) | refine branch_split (fun h1 => ?_) (fun h1 => ?_)
  ·simp only [go_sem, orI_128, shr_7]
   refine ⟨by omega, ?_⟩
   refine again_intro (pre ++ [UInt8.ofNat (m % 128 + 128)], m / 128) ⟨numB_step he (by omega), by show m / 128 <= n; omega⟩ (by show m / 128 < m; omega) ?_
   simp only [go_sem]
   rw [u8_of (by omega)]
  ·have e1 : IntKind.u8.wrap (m : Int) = (m : Int) := wrapU8 (by omega) (by omega)
   simp only [go_sem, e1]
   refine ⟨by omega, ?_⟩
   rw [<- he, numB_lt (by omega), List.map_append, List.map_cons, List.map_nil, byteA_of (by omega)]
end Go.VS
set_option linter.unusedSimpArgs false
set_option linter.unusedVariables false
open Go.Proofs
set_option maxRecDepth 20000
namespace Go.VS
theorem f149_at : gz.P.funcs[149]? = some Tryz.f149 := by
 have h : Tryz.prog.funcs[149]? = some Tryz.f149 := by kernel_rfl
 exact h
theorem f154_at : gz.P.funcs[154]? = some Tryz.f154 := by
 have h : Tryz.prog.funcs[154]? = some Tryz.f154 := by kernel_rfl
 exact h
theorem f130_at : gz.P.funcs[130]? = some Tryz.f130 := by
 have h : Tryz.prog.funcs[130]? = some Tryz.f130 := by kernel_rfl
 exact h
theorem f139_at : gz.P.funcs[139]? = some Tryz.f139 := by
 have h : Tryz.prog.funcs[139]? = some Tryz.f139 := by kernel_rfl
 exact h
def txtB (s : ByteArray) : List UInt8 := numB s.size ++ s.data.toList
theorem txtB_len {s : ByteArray} (hs : s.size <= 3000) : (txtB s).length <= 3009 := by
 have h1 := numB_len9 (n := s.size) (by omega)
 have h2 : s.data.toList.length = s.size := (bsz s).symm
 simp only [txtB, List.length_append]
 omega
theorem ok149 (s : ByteArray) (hs : s.size <= 3000) : VCalls gz 149 [.lit (.string s)] none (fun y _ => y = .lst true 1 ((txtB s).map byteA)) := by
 refine VCalls.go (nt := 8) (keep := [0, 2]) (muts := []) (mvs := []) [] f149_at rfl (by kernel_rfl) rfl (by kernel_rfl) rfl (fun i h => by cases h) rfl ?_
 intro hok
 simp only [go_sem] at hok
 simp only [Tryz.f149, Func.code, Option.getD_some]
 simp only [go_sem]
 intro hm
 refine call_lend ?_
 simp only [go_sem]
 refine callN.eq (ok129 s.size (by omega)) (by simp only [go_sem]) ?_
 simp only [go_sem]
 have h1 := numB_len9 (n := s.size) (by omega)
 have h2 : s.data.toList.length = s.size := (bsz s).symm
 refine ⟨by omega, ?_⟩
 rw [txtB, List.map_append]
theorem ok154 (s : ByteArray) (hs : s.size <= 3000) : VCalls gz 154 [.lit (.string s)] none (fun y _ => y = .lst true 1 ((txtB s).map byteA)) := by
 refine VCalls.go (nt := 11) (keep := [0, 2, 5]) (muts := []) (mvs := []) [] f154_at rfl (by kernel_rfl) rfl (by kernel_rfl) rfl (fun i h => by cases h) rfl ?_
 intro hok
 simp only [go_sem] at hok
 simp only [Tryz.f154, Func.code, Option.getD_some]
 simp only [go_sem]
 intro hm
 have h3 : ¬ 3000 < (s.size : Int) := by omega
 simp only [go_sem, h3]
 intro hm2
 refine call_lend ?_
 simp only [go_sem]
 refine callN.eq (ok140 s.size (by omega)) (by simp only [go_sem]) ?_
 simp only [go_sem]
 have h1 := numB_len9 (n := s.size) (by omega)
 have h2 : s.data.toList.length = s.size := (bsz s).symm
 refine ⟨by omega, ?_⟩
 rw [txtB, List.map_append]
def txsN (l : List ByteArray) (i : Nat) : List UInt8 := numB l.length ++ ((l.take i).map txtB).flatten
def txsOk (l : List ByteArray) : Bool := decide (l.length <= 200) && l.all fun s => decide (s.size <= 3000)
def txs (l : List ByteArray) : List UInt8 := if txsOk l = true then txsN l l.length else []
theorem txsN_zero {l : List ByteArray} : txsN l 0 = numB l.length := by simp [txsN]
theorem txsN_succ {l : List ByteArray} {i : Nat} (h : i < l.length) : txsN l (i + 1) = txsN l i ++ txtB (l.getD i default) := by
 simp only [txsN, take_succ_getD h, List.map_append, List.flatten_append, List.append_assoc, List.map_cons, List.map_nil, List.flatten_cons, List.flatten_nil, List.append_nil]
theorem txsN_len {l : List ByteArray} (hl : l.length <= 200) : ∀ {i : Nat}, i <= l.length -> (∀ j, j < i -> (l.getD j default).size <= 3000) -> (txsN l i).length <= 9 + i * 3009
 | 0, _, _ => by
  rw [txsN_zero]
  have := numB_len9 (n := l.length) (by omega)
  omega
 | i + 1, hi, h => by
  rw [txsN_succ (by omega), List.length_append]
  have h1 := txsN_len hl (i := i) (by omega) (fun j hj => h j (by omega))
  have h2 := txtB_len (h i (by omega))
  omega
theorem txs_len {l : List ByteArray} : (txs l).length <= 700000 := by
 unfold txs
 split
 ·rename_i h
  simp only [txsOk, Bool.and_eq_true, decide_eq_true_eq, List.all_eq_true] at h
  have := txsN_len h.1 (Nat.le_refl _) (fun j hj => h.2 _ (getD_mem hj))
  omega
 ·simp
theorem txsOk_bad {l : List ByteArray} {i : Nat} (hi : i < l.length) (h : 3000 < ((l.getD i default).size : Int)) : txs l = [] := by
 have : txsOk l = false := by
  have : l.all (fun s => decide (s.size <= 3000)) = false := List.all_eq_false.2 ⟨_, getD_mem hi, by simp only [decide_eq_true_eq]; omega⟩
  simp only [txsOk, this, Bool.and_false]
 simp only [txs, this, Bool.false_eq_true, if_false]
theorem txsOk_all {l : List ByteArray} (hl : l.length <= 200) (h : ∀ j, j < l.length -> (l.getD j default).size <= 3000) : txs l = txsN l l.length := by
 have : txsOk l = true := by
  simp only [txsOk, Bool.and_eq_true, decide_eq_true_eq, List.all_eq_true]
  refine ⟨hl, fun x hx => ?_⟩
  obtain ⟨j, hj, rfl⟩ := List.mem_iff_getElem.1 hx
  have := h j hj
  simpa [List.getD, hj] using this
 simp only [txs, this, if_true]
theorem txs_long {l : List ByteArray} (h : 200 < (l.length : Int)) : txs l = [] := by
 have : txsOk l = false := by simp only [txsOk, decide_eq_false (show ¬ l.length <= 200 by omega), Bool.false_and]
 simp only [txs, this, Bool.false_eq_true, if_false]
theorem ok130 (l : List ByteArray) : VCalls gz 130 [.lst false 1 (l.map strA)] none (fun y _ => y = .lst true 1 ((txs l).map byteA)) := by
 refine VCalls.go (nt := 33) (keep := [0, 2, 3, 4, 7, 15, 23]) (muts := []) (mvs := []) [] f130_at rfl (by kernel_rfl) rfl (by kernel_rfl) rfl (fun i h => by cases h) rfl ?_
 intro hok
 simp only [go_sem] at hok
 simp only [Tryz.f130, Func.code, Option.getD_some]
 simp only [go_sem]
 intro hm
 first | refine branch_ndec (fun h1 => ?_) (fun h1 => ?_) | refine branch_dec (fun h1 => ?_) (fun h1 => ?_) | refine branch_nbool (fun h1 => ?_) (fun h1 => ?_) | refine branch_split (fun h1 => ?_) (fun h1 => ?_)
 ·simp only [go_sem, txs_long h1]
  try trivial
 simp only [go_sem]
 intro hm2
 refine call_lend ?_
 simp only [go_sem]
 refine callN.eq (ok129 l.length (by omega)) (by simp only [go_sem]) ?_
 simp only [go_sem]
 have hl : l.length <= 200 := by omega
 refine vm_loopK (α := Nat) (fun i => [(0, .lst false 1 (l.map strA)), (3, .lst true 1 ((txsN l i).map byteA)), (4, .lit (.int .i64 i))]) (fun i => i <= l.length /\ ∀ j, j < i -> (l.getD j default).size <= 3000) (fun i => l.length - i) 0 ?_ ⟨by omega, fun j hj => by omega⟩ (by kernel_rfl) (fun _ => rfl) ?_
 ·simp only [go_sem, txsN_zero]
  try trivial
 ·rintro i ⟨hi, he⟩ hk
  simp only [go_sem]
  intro _
  first | refine branch_ndec (fun h6 => ?_) (fun h6 => ?_) | refine branch_dec (fun h6 => ?_) (fun h6 => ?_) | refine branch_nbool (fun h6 => ?_) (fun h6 => ?_) | refine branch_split (fun h6 => ?_) (fun h6 => ?_)
  rotate_left
  ·have hie : i = l.length := by omega
   subst hie
   simp only [go_sem, txsOk_all hl he]
   try trivial
  have hlt : i < l.length := by omega
  have h0 : (0 : Int) <= (i : Int) := by omega
  have hw3 : IntKind.i64.wrap ((i : Int) + 1) = ((i + 1 : Nat) : Int) := by rw [wrap64 (by omega) (by omega)]; omega
  have hlen := txsN_len hl hi he
  simp only [go_sem, h0, hlt, h6]
  intro _
  first | refine branch_ndec (fun h7 => ?_) (fun h7 => ?_) | refine branch_dec (fun h7 => ?_) (fun h7 => ?_) | refine branch_nbool (fun h7 => ?_) (fun h7 => ?_) | refine branch_split (fun h7 => ?_) (fun h7 => ?_)
  ·simp only [go_sem, txsOk_bad hlt h7]
   try trivial
  ·have hsz : (l.getD i default).size <= 3000 := by omega
   have hlen2 := txtB_len hsz
   simp only [go_sem, h0, hlt, h6]
   refine call_lend ?_
   simp only [go_sem]
   refine callN.eq (ok149 (l.getD i default) hsz) (by simp only [go_sem]) ?_
   simp only [go_sem]
   refine ⟨by omega, ?_⟩
   rw [hw3]
   refine again_intro (i + 1) ⟨by omega, fun j hj => ?_⟩ (by omega) ?_
   ·by_cases hji : j < i
    ·exact he j hji
    ·have : j = i := by omega
     subst this
     exact hsz
   ·simp only [go_sem]
    rw [txsN_succ hlt, List.map_append]
    try trivial
theorem ok139 (l : List ByteArray) : VCalls gz 139 [.lst false 1 (l.map strA)] none (fun y _ => y = .lst true 1 ((txs l).map byteA)) := by
 refine VCalls.go (nt := 27) (keep := [0, 2, 3, 5, 8, 12, 13, 14, 15, 20]) (muts := []) (mvs := []) [] f139_at rfl (by kernel_rfl) rfl (by kernel_rfl) rfl (fun i h => by cases h) rfl ?_
 intro hok
 simp only [go_sem] at hok
 simp only [Tryz.f139, Func.code, Option.getD_some]
 simp only [go_sem]
 intro hm
 first | refine branch_ndec (fun h1 => ?_) (fun h1 => ?_) | refine branch_dec (fun h1 => ?_) (fun h1 => ?_) | refine branch_nbool (fun h1 => ?_) (fun h1 => ?_) | refine branch_split (fun h1 => ?_) (fun h1 => ?_)
 ·simp only [go_sem, txs_long h1]
  try trivial
 simp only [go_sem]
 intro hm2
 refine call_lend ?_
 simp only [go_sem]
 refine callN.eq (ok140 l.length (by omega)) (by simp only [go_sem]) ?_
 simp only [go_sem]
 have hl : l.length <= 200 := by omega
 intro hm3
 refine vm_loopK (α := Nat) (fun i => [(12, .lst false 1 (l.map strA)), (13, .lit (.int .i64 l.length)), (3, .lst true 1 ((txsN l i).map byteA)), (14, .lit (.int .i64 i))]) (fun i => i <= l.length /\ ∀ j, j < i -> (l.getD j default).size <= 3000) (fun i => l.length - i) 0 ?_ ⟨by omega, fun j hj => by omega⟩ (by kernel_rfl) (fun _ => rfl) ?_
 ·simp only [go_sem, txsN_zero]
  try trivial
 ·rintro i ⟨hi, he⟩ hk
  simp only [go_sem]
  first | refine branch_ndec (fun h6 => ?_) (fun h6 => ?_) | refine branch_dec (fun h6 => ?_) (fun h6 => ?_) | refine branch_nbool (fun h6 => ?_) (fun h6 => ?_) | refine branch_split (fun h6 => ?_) (fun h6 => ?_)
  rotate_left
  ·have hie : i = l.length := by omega
   subst hie
   simp only [go_sem, txsOk_all hl he]
   try trivial
  have hlt : i < l.length := by omega
  have h0 : (0 : Int) <= (i : Int) := by omega
  have hw3 : IntKind.i64.wrap ((i : Int) + 1) = ((i + 1 : Nat) : Int) := by rw [wrap64 (by omega) (by omega)]; omega
  have hlen := txsN_len hl hi he
  simp only [go_sem, h0, hlt, h6]
  intro _
  first | refine branch_ndec (fun h7 => ?_) (fun h7 => ?_) | refine branch_dec (fun h7 => ?_) (fun h7 => ?_) | refine branch_nbool (fun h7 => ?_) (fun h7 => ?_) | refine branch_split (fun h7 => ?_) (fun h7 => ?_)
  ·simp only [go_sem, txsOk_bad hlt h7]
   try trivial
  ·have hsz : (l.getD i default).size <= 3000 := by omega
   have hlen2 := txtB_len hsz
   simp only [go_sem, h0, hlt, h6]
   refine call_lend ?_
   simp only [go_sem]
   refine callN.eq (ok154 (l.getD i default) hsz) (by simp only [go_sem]) ?_
   simp only [go_sem]
   refine ⟨by omega, ?_⟩
   rw [hw3]
   refine again_intro (i + 1) ⟨by omega, fun j hj => ?_⟩ (by omega) ?_
   ·by_cases hji : j < i
    ·exact he j hji
    ·have : j = i := by omega
     subst this
     exact hsz
   ·simp only [go_sem]
    rw [txsN_succ hlt, List.map_append]
    try trivial
end Go.VS
set_option linter.unusedSimpArgs false
set_option linter.unusedVariables false
open Go.Proofs
set_option maxRecDepth 20000
namespace Go.VS
theorem f102_at : gz.P.funcs[102]? = some Tryz.f102 := by
 have h : Tryz.prog.funcs[102]? = some Tryz.f102 := by kernel_rfl
 exact h
def shL (b : Blk) (i : Nat) : List Int := [b.view, b.parent, b.proof.view, b.proof.name, (b.proof.bys.length : Int)] ++ ((List.range i).map fun j => [b.proof.bys.getD j default, b.proof.tags.getD j default]).flatten
theorem shL_zero {b : Blk} : shL b 0 = [b.view, b.parent, b.proof.view, b.proof.name, (b.proof.bys.length : Int)] := rfl
theorem shL_succ {b : Blk} {i : Nat} : shL b (i + 1) = shL b i ++ [b.proof.bys.getD i default, b.proof.tags.getD i default] := by
 simp only [shL, List.range_succ, List.map_append, List.flatten_append, List.append_assoc, List.map_cons, List.map_nil, List.flatten_cons, List.flatten_nil, List.append_nil]
theorem shL_len {b : Blk} : ∀ {i : Nat}, (shL b i).length = 5 + 2 * i
 | 0 => rfl
 | i + 1 => by rw [shL_succ, List.length_append, shL_len]; simp; omega
def inR (x : Int) : Prop := 0 <= x /\ x <= 1099511627776
instance (x : Int) : Decidable (inR x) := inferInstanceAs (Decidable (_ /\ _))
def nums (xs : List Int) : List UInt8 := (xs.map fun x => numB x.toNat).flatten
theorem nums_app {xs ys : List Int} : nums (xs ++ ys) = nums xs ++ nums ys := by simp [nums]
theorem nums_len : ∀ {xs : List Int}, (∀ x ∈ xs, inR x) -> (nums xs).length <= 9 * xs.length
 | [], _ => by simp [nums]
 | x :: xs, h => by
  have h1 := nums_len (xs := xs) fun y hy => h y (by simp [hy])
  have h2 := h x (by simp)
  unfold inR at h2
  have h3 := numB_len9 (n := x.toNat) (by omega)
  have e : nums (x :: xs) = numB x.toNat ++ nums xs := rfl
  rw [e, List.length_append, List.length_cons]
  omega
def Blk.shOk (b : Blk) : Prop := (b.proof.bys.length <= 7 /\ b.proof.bys.length = b.proof.tags.length) /\ (∀ x ∈ shL b b.proof.bys.length, inR x) /\ txs b.moves ≠ [] /\ inR b.bY
instance (b : Blk) : Decidable b.shOk := inferInstanceAs (Decidable (_ /\ _))
def Blk.shB (b : Blk) : List UInt8 := nums (shL b b.proof.bys.length) ++ txs b.moves ++ numB b.bY.toNat
def Blk.sh (b : Blk) : ByteArray := if b.shOk then ⟨b.shB.toArray⟩ else ⟨#[]⟩
theorem Blk.sh_no {b : Blk} (h : ¬ b.shOk) : b.sh = ⟨#[]⟩ := if_neg h
theorem Blk.sh_yes {b : Blk} (h : b.shOk) : b.sh = ⟨b.shB.toArray⟩ := if_pos h
theorem strOfA_3 {A B C : List UInt8} : strOfA (List.take (A.length + B.length + C.length) (A.map byteA ++ B.map byteA ++ C.map byteA)) = some (A ++ B ++ C) := by
 rw [<- List.map_append, <- List.map_append, List.take_of_length_le (by simp only [List.length_map, List.length_append]; omega)]
 exact strOfA_map
set_option maxHeartbeats 2000000 in
theorem ok102 (b : Blk) : VCalls gz 102 [b.enc false] none (fun y _ => y = .lit (.string b.sh)) := by
 refine VCalls.go (nt := 102) (keep := [0, 1, 2, 3, 4, 5, 6, 7, 38, 44, 66, 74, 93]) (muts := []) (mvs := []) [(7, .tree false (.take 0 (.take 1 (.take 2 (.take 4 (.take 7 (.take 8 (.take 10 (.all (.cons 3 (.take 5 (.all (.cons 6 (.all (.cons 9 (.take 11 (.all (.cons 12 (.all (.cons 13 (.all (.cons 14 (.all (.cons 15 .done .nil)) .nil)) .nil)) .nil))) .nil)) (.cons 9 (.take 11 (.all (.cons 6 (.all (.cons 12 (.all (.cons 13 (.all (.cons 14 (.all (.cons 15 .done .nil)) .nil)) .nil)) .nil)) (.cons 12 (.all (.cons 6 (.all (.cons 13 (.all (.cons 14 (.all (.cons 15 .done .nil)) .nil)) .nil)) .nil)) .nil)))) .nil)))) (.cons 9 (.take 11 (.all (.cons 3 (.take 5 (.all (.cons 6 (.all (.cons 12 (.all (.cons 13 (.all (.cons 14 (.all (.cons 15 .done .nil)) .nil)) .nil)) .nil)) (.cons 12 (.all (.cons 6 (.all (.cons 13 (.all (.cons 14 (.all (.cons 15 .done .nil)) .nil)) .nil)) .nil)) .nil)))) (.cons 12 (.all (.cons 3 (.take 5 (.all (.cons 6 (.all (.cons 13 (.all (.cons 14 (.all (.cons 15 .done .nil)) .nil)) .nil)) .nil))) .nil)) .nil)))) .nil))))))))))), (18, .tree false (.take 0 (.take 1 (.take 3 (.all (.cons 2 (.all (.cons 4 (.all (.cons 5 (.all (.cons 6 (.all (.cons 7 (.all (.cons 8 .done .nil)) .nil)) .nil)) .nil)) .nil)) (.cons 4 (.all (.cons 2 (.all (.cons 5 (.all (.cons 6 (.all (.cons 7 (.all (.cons 8 .done .nil)) .nil)) .nil)) .nil)) .nil)) .nil)))))))] f102_at rfl (by kernel_rfl) rfl (by kernel_rfl) rfl (fun i h => by cases h) rfl ?_
 intro hok
 simp only [go_sem] at hok
 simp only [Tryz.f102, Func.code, Option.getD_some]
 simp only [go_sem]
 intro hm
 by_cases h1 : 7 < (b.proof.bys.length : Int)
 ·have : b.sh = ⟨#[]⟩ := Blk.sh_no fun h => by have := h.1.1; omega
  simp only [go_sem, h1, this]
 simp only [go_sem, h1]
 intro hm2 hm3
 by_cases h2 : (b.proof.bys.length : Int) = (b.proof.tags.length : Int)
 rotate_left
 ·have : b.sh = ⟨#[]⟩ := Blk.sh_no fun h => by have := h.1.2; omega
  simp only [go_sem, h2, this]
 simp only [go_sem, eq_true h2]
 intro hm4
 have hl7 : b.proof.bys.length <= 7 := by omega
 have hl2 : b.proof.bys.length = b.proof.tags.length := by omega
 refine vm_loopK (α := Nat) (fun i => [(1, .ptr true (b.enc false)), (2, .lit (.string ⟨#[]⟩)), (3, .lst true 1 ((shL b i).map intA)), (4, .lit (.int .i64 i))]) (fun i => i <= b.proof.bys.length) (fun i => b.proof.bys.length - i) 0 ?_ (by omega) (by kernel_rfl) (fun _ => rfl) ?_
 ·simp only [go_sem, shL_zero]
  try rfl
 ·intro i hi hk
  simp only [go_sem]
  intro _
  first | refine branch_ndec (fun h6 => ?_) (fun h6 => ?_) | refine branch_dec (fun h6 => ?_) (fun h6 => ?_) | refine branch_nbool (fun h6 => ?_) (fun h6 => ?_) | refine branch_split (fun h6 => ?_) (fun h6 => ?_)
  ·have hlt : i < b.proof.bys.length := by omega
   have hlt2 : i < b.proof.tags.length := by omega
   have h0 : (0 : Int) <= (i : Int) := by omega
   have h6b : (i : Int) < (b.proof.tags.length : Int) := by omega
   have hw3 : IntKind.i64.wrap ((i : Int) + 1) = ((i + 1 : Nat) : Int) := by rw [wrap64 (by omega) (by omega)]; omega
   have hsl := shL_len (b := b) (i := i)
   simp only [go_sem, h0, hlt, h6, hlt2, h6b, hw3]
   refine ⟨by omega, ?_⟩
   refine again_intro (i + 1) (by omega) (by omega) ?_
   simp only [go_sem]
   rw [shL_succ, List.map_append]
   try rfl
  ·have hie : i = b.proof.bys.length := by omega
   subst hie
   simp only [go_sem]
   have hsl := shL_len (b := b) (i := b.proof.bys.length)
   obtain ⟨L, hL⟩ : ∃ L, L = shL b b.proof.bys.length := ⟨_, rfl⟩
   rw [<- hL] at hsl ⊢
   refine vm_loopK (α := Nat) (fun k => [(1, .ptr true (b.enc false)), (2, .lit (.string ⟨#[]⟩)), (3, .lst true 1 (L.map intA)), (5, .lst true 1 ((nums (L.take k)).map byteA)), (6, .lit (.int .i64 k))]) (fun k => k <= L.length /\ ∀ j, j < k -> inR (L.getD j default)) (fun k => L.length - k) 0 ?_ ⟨by omega, fun j hj => by omega⟩ (by kernel_rfl) (fun _ => rfl) ?_
   ·simp only [go_sem]
    exact ⟨rfl, rfl⟩
   ·rintro k ⟨hk2, hin⟩ hkk
    simp only [go_sem]
    intro _
    first | refine branch_ndec (fun h8 => ?_) (fun h8 => ?_) | refine branch_dec (fun h8 => ?_) (fun h8 => ?_) | refine branch_nbool (fun h8 => ?_) (fun h8 => ?_) | refine branch_split (fun h8 => ?_) (fun h8 => ?_)
    ·have hlt : k < L.length := by omega
     have h0 : (0 : Int) <= (k : Int) := by omega
     have hw3 : IntKind.i64.wrap ((k : Int) + 1) = ((k + 1 : Nat) : Int) := by rw [wrap64 (by omega) (by omega)]; omega
     simp only [go_sem, h0, hlt, h8]
     refine call_lend ?_
     simp only [go_sem]
     refine callN.eq (ok60 (L.getD k default) 0 1099511627776) (by simp only [go_sem]) ?_
     simp only [go_sem]
     by_cases h9 : 0 <= L.getD k default /\ L.getD k default <= 1099511627776
     rotate_left
     ·have : b.sh = ⟨#[]⟩ := Blk.sh_no fun h => h9 (h.2.1 _ (by rw [<- hL]; exact getD_mem hlt))
      simp only [go_sem, eq_false h9, this]
     simp only [go_sem, eq_true h9, h0, hlt, h8]
     obtain ⟨m, hmm⟩ := Int.eq_ofNat_of_zero_le h9.1
     simp only [go_sem, hmm]
     refine call_lend ?_
     simp only [go_sem]
     refine callN.eq (ok129 m (by omega)) (by simp only [go_sem]) ?_
     simp only [go_sem]
     have hl9 := numB_len9 (n := m) (by omega)
     have hnl := nums_len (xs := L.take k) (fun x hx => by
      obtain ⟨j, hj, rfl⟩ := List.mem_iff_getElem.1 hx
      rw [List.length_take] at hj
      have := hin j (by omega)
      rw [List.getElem_take]
      simpa [List.getD, show j < L.length by omega] using this)
     rw [List.length_take] at hnl
     refine ⟨by omega, ?_⟩
     rw [hw3]
     refine again_intro (k + 1) ⟨by omega, fun j hj => ?_⟩ (by omega) ?_
     ·by_cases hji : j < k
      ·exact hin j hji
      ·have : j = k := by omega
       subst this
       exact h9
     ·simp only [go_sem]
      rw [take_succ_getD hlt, nums_app, List.map_append, hmm]
      have e : nums [(m : Int)] = numB m := by simp [nums]
      rw [e]
      try trivial
    ·have hke : k = L.length := by omega
     subst hke
     simp only [go_sem]
     refine call_lend ?_
     simp only [go_sem]
     refine callN.eq (ok130 b.moves) (by simp only [go_sem]) ?_
     simp only [go_sem]
     intro hm5
     have htl := txs_len (l := b.moves)
     by_cases ht : ((txs b.moves).length : Int) = 0
     ·have : b.sh = ⟨#[]⟩ := Blk.sh_no fun h => h.2.2.1 (List.eq_nil_of_length_eq_zero (by omega))
      simp only [go_sem, eq_true ht, this]
     simp only [go_sem, ht]
     refine call_lend ?_
     simp only [go_sem]
     refine callN.eq (ok60 b.bY 0 1099511627776) (by simp only [go_sem]) ?_
     simp only [go_sem]
     by_cases hb : 0 <= b.bY /\ b.bY <= 1099511627776
     rotate_left
     ·have : b.sh = ⟨#[]⟩ := Blk.sh_no fun h => hb h.2.2.2
      simp only [go_sem, eq_false hb, this]
     simp only [go_sem, eq_true hb]
     have hall : ∀ x ∈ L, inR x := fun x hx => by
      obtain ⟨j, hj, rfl⟩ := List.mem_iff_getElem.1 hx
      have := hin j hj
      simpa [List.getD, hj] using this
     have hsh : b.shOk := ⟨⟨hl7, hl2⟩, by rw [<- hL]; exact hall, fun h => ht (by rw [h]; rfl), hb⟩
     have hnl := nums_len hall
     obtain ⟨m, hmm⟩ := Int.eq_ofNat_of_zero_le hb.1
     have hl9 := numB_len9 (n := m) (by omega)
     simp only [go_sem, hmm]
     repeat' refine And.intro ?_ ?_
     all_goals try omega
     all_goals
      refine call_lend ?_
      simp only [go_sem]
      refine callN.eq (ok129 m (by omega)) (by simp only [go_sem]) ?_
      simp only [go_sem]
      refine ⟨by omega, ?_⟩
      simp only [go_sem, strOfA_3]
      rw [Blk.sh_yes hsh, Blk.shB, <- hL, hmm]
      rfl
end Go.VS
