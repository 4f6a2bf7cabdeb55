/- VS: functions by the machine. -/
import Derived.Test.YtgoohbakklimcaaDoorVt
set_option linter.unusedSimpArgs false
set_option linter.unusedVariables false
open Go.Proofs
set_option maxRecDepth 20000
namespace Go.VS
theorem byteA_eq {b : UInt8} : byteA b = .lit (.int .u8 b.toNat) := nr rfl
attribute [go_sem] byteA_eq
theorem f58_at : gz.P.funcs[58]? = some Tryd.f58 := by
  have h : Tryd.prog.funcs[58]? = some Tryd.f58 := by kernel_rfl
  exact h
theorem f56_at : gz.P.funcs[56]? = some Tryd.f56 := by
  have h : Tryd.prog.funcs[56]? = some Tryd.f56 := by kernel_rfl
  exact h
theorem ok58 (a b d : Int) : VCalls gz 58 [.lit (.int .i64 a), .lit (.int .i64 b), .lit (.int .i64 d)] none (fun y _ => y = .lit (.bool (decide (b ≤ a ∧ a ≤ d)))) := by
  refine VCalls.go (nt := 15) (keep := [0, 1, 2, 6]) (muts := []) (mvs := []) [] f58_at rfl (by kernel_rfl) rfl (by kernel_rfl) rfl (fun i h => by cases h) rfl ?_
  intro hok
  simp only [go_sem] at hok
  simp only [Tryd.f58, Func.code, Option.getD_some]
  simp only [go_sem]
  first | refine gj_ndec (fun h => ?_) (fun h => ?_) | refine gj_dec (fun h => ?_) (fun h => ?_) | refine gj_nbool (fun h => ?_) (fun h => ?_) | refine gj_bool (fun h => ?_) (fun h => ?_)
  · simp only [go_sem, h]
  · simp only [go_sem, h]
theorem ok56 (a b d : Int) : VCalls gz 56 [.lit (.int .i64 a), .lit (.int .i64 b), .lit (.int .i64 d)] none (fun y _ => y = .lit (.bool (decide (b ≤ a ∧ a ≤ d)))) := by
  refine VCalls.go (nt := 15) (keep := [0, 1, 2, 6]) (muts := []) (mvs := []) [] f56_at rfl (by kernel_rfl) rfl (by kernel_rfl) rfl (fun i h => by cases h) rfl ?_
  intro hok
  simp only [go_sem] at hok
  simp only [Tryd.f56, Func.code, Option.getD_some]
  simp only [go_sem]
  first | refine gj_ndec (fun h => ?_) (fun h => ?_) | refine gj_dec (fun h => ?_) (fun h => ?_) | refine gj_nbool (fun h => ?_) (fun h => ?_) | refine gj_bool (fun h => ?_) (fun h => ?_)
  · simp only [go_sem, h]
  · simp only [go_sem, h]
end Go.VS

set_option linter.unusedSimpArgs false
set_option linter.unusedVariables false
open Go.Proofs
set_option maxRecDepth 20000
namespace Go.VS
/-- a text -/
def strA (s : ByteArray) : AVal := .lit (.string s)
/-- a patch -/
structure Patch where
  place : Int
  text : ByteArray
  deriving DecidableEq
instance : Inhabited Patch := ⟨⟨0, ByteArray.empty⟩⟩
def Patch.enc (p : Patch) : AVal := .agg [.lit (.int .i64 p.place), .lit (.string p.text)]
/-- a device -/
structure Dev where
  secs : List ByteArray
  late : List Patch
def Dev.enc (own : Bool) (d : Dev) : AVal := .agg [.lst own 1 (d.secs.map strA), .lst own 2 (d.late.map Patch.enc)]
theorem strA_eq {s : ByteArray} : strA s = .lit (.string s) := nr rfl
theorem Patch.enc_eq {p : Patch} : Patch.enc p = .agg [.lit (.int .i64 p.place), .lit (.string p.text)] := nr rfl
theorem Dev.enc_eq {own : Bool} {d : Dev} : Dev.enc own d = .agg [.lst own 1 (d.secs.map strA), .lst own 2 (d.late.map Patch.enc)] := nr rfl
attribute [go_sem] strA_eq Patch.enc_eq Dev.enc_eq
def Dev.fits (d : Dev) (a : Int) (t : ByteArray) : Bool := decide (0 ≤ a ∧ a ≤ (d.secs.length : Int) - 1) && decide ((t.size : Int) ≤ 400)
/-- which of a list is the first -/
def idxOf {α : Type} (p : α → Bool) (xs : List α) : Int := if xs.any p = true then (xs.findIdx p : Int) else -1
theorem idxOf_hit {α : Type} {p : α → Bool} {xs : List α} {i : Nat} (h : ∀ x ∈ xs.take i, p x = false) (hi : i < xs.length) (hp : p xs[i] = true) : idxOf p xs = i := by
  have e : xs = xs.take i ++ xs[i] :: xs.drop (i + 1) := by rw [← List.drop_eq_getElem_cons hi, List.take_append_drop]
  have h1 : xs.any p = true := List.any_eq_true.2 ⟨_, List.getElem_mem hi, hp⟩
  simp only [idxOf, h1, if_true]
  congr 1
  apply (List.findIdx_eq hi).2
  refine ⟨hp, fun j hj => ?_⟩
  refine h _ ?_
  rw [List.mem_take_iff_getElem]
  exact ⟨j, by omega, rfl⟩
theorem idxOf_none {α : Type} {p : α → Bool} {xs : List α} (h : ∀ x ∈ xs, p x = false) : idxOf p xs = -1 := by
  have h1 : xs.any p = false := List.any_eq_false.2 fun x hx => by simp [h x hx]
  simp only [idxOf, h1, Bool.false_eq_true, if_false]
theorem idxOf_nonneg {α : Type} {p : α → Bool} {xs : List α} : (0 ≤ idxOf p xs) ↔ xs.any p = true := by
  unfold idxOf
  split
  · rename_i h
    simp only [h, iff_true]
    omega
  · rename_i h
    simp only [h]
    simp


end Go.VS

set_option linter.unusedSimpArgs false
set_option linter.unusedVariables false
open Go.Proofs
set_option maxRecDepth 20000
namespace Go.VS
/-- the first i of one list, the rest of another -/
def midL {α : Type} (xs ys : List α) (i : Nat) : List α := xs.take i ++ ys.drop i
theorem midL_zero {α : Type} (xs ys : List α) : midL xs ys 0 = ys := by simp [midL]
theorem midL_length {α : Type} {xs ys : List α} {i : Nat} (hi : i ≤ xs.length) (h : ys.length = xs.length) : (midL xs ys i).length = xs.length := by simp [midL]; omega
theorem midL_all {α : Type} (xs : List α) {ys : List α} (h : ys.length = xs.length) : midL xs ys xs.length = xs := by
  simp only [midL, List.take_length]
  rw [List.drop_eq_nil_of_le (by omega), List.append_nil]
theorem midL_get {α : Type} [Inhabited α] {xs ys : List α} {i : Nat} (hi : i < xs.length) (h : ys.length = xs.length) : (midL xs ys i).getD i default = ys.getD i default := by
  simp only [midL, List.getD]
  rw [List.getElem?_append_right (by rw [List.length_take]; omega), List.length_take, Nat.min_eq_left (Nat.le_of_lt hi), Nat.sub_self, List.getElem?_drop, Nat.add_zero]
theorem midL_mod {α : Type} [Inhabited α] {xs ys : List α} {i : Nat} (hi : i < xs.length) (h : ys.length = xs.length) {f : α → α} (hf : f (ys.getD i default) = xs.getD i default) : (midL xs ys i).modify i f = midL xs ys (i + 1) := by
  have hy : i < ys.length := by omega
  have e1 : ys.drop i = ys[i] :: ys.drop (i + 1) := List.drop_eq_getElem_cons hy
  have e2 : ys.getD i default = ys[i] := by simp [List.getD, hy]
  have e3 : xs.getD i default = xs[i] := by simp [List.getD, hi]
  rw [e2, e3] at hf
  have e4 : xs.take (i + 1) = xs.take i ++ [xs[i]] := List.take_succ_eq_append_getElem hi
  apply List.ext_getElem?
  intro j
  simp only [midL, e1, e4, List.getElem?_modify]
  by_cases hj : i = j
  · subst hj
    have hl : (xs.take i).length = i := by simp; omega
    rw [List.getElem?_append_right (by omega), hl, Nat.sub_self, List.append_assoc, List.getElem?_append_right (by omega), hl, Nat.sub_self]
    simp [hf, hy]
  · simp only [if_neg hj, Option.map_id']
    by_cases hlt : j < i
    · rw [List.getElem?_append_left (by simp; omega), List.append_assoc, List.getElem?_append_left (by simp; omega)]
      simp
    · rw [List.getElem?_append_right (by simp; omega), List.append_assoc, List.getElem?_append_right (by simp; omega)]
      have hl : (xs.take i).length = i := by simp; omega
      rw [hl]
      obtain ⟨k, rfl⟩ : ∃ k, j = i + (k + 1) := ⟨j - i - 1, by omega⟩
      rw [show i + (k + 1) - i = k + 1 by omega]
      simp [show i + (k + 1) = i + 1 + k by omega]
theorem modify_set {α : Type} {xs : List α} {i : Nat} {v : α} : xs.modify i (fun _ => v) = xs.set i v := by
  apply List.ext_getElem?
  intro j
  simp only [List.getElem?_modify, List.getElem?_set]
  by_cases hj : i = j
  · subst hj
    by_cases hl : i < xs.length
    · simp [hl]
    · simp [hl]
  · simp [hj]
theorem modify_enc {α : Type} {f : α → AVal} {xs : List α} {i : Nat} {v : α} {y : AVal} (h : y = f v) : (xs.map f).modify i (putF [] y) = (xs.set i v).map f := by
  subst h
  exact modify_map
theorem midL_set {α : Type} [Inhabited α] (xs ys : List α) {i : Nat} (hi : i < xs.length) (h : ys.length = xs.length) : (midL xs ys i).set i (xs.getD i default) = midL xs ys (i + 1) := by
  rw [← modify_set]
  exact midL_mod hi h rfl
theorem ext_getD {α : Type} [Inhabited α] {xs ys : List α} (h : xs.length = ys.length) (he : ∀ j, j < xs.length → xs.getD j default = ys.getD j default) : xs = ys := by
  apply List.ext_getElem h
  intro j h1 h2
  have := he j h1
  simpa [List.getD, h1, h2] using this
end Go.VS

set_option linter.unusedSimpArgs false
set_option linter.unusedVariables false
open Go.Proofs
set_option maxRecDepth 20000
namespace Go.VS
/-- a number as an element -/
def intA (n : Int) : AVal := .lit (.int .i64 n)
/-- a vote -/
structure Vot where
  view : Int
  name : Int
  bY : Int
  tag : Int
  deriving DecidableEq
instance : Inhabited Vot := ⟨⟨0, 0, 0, 0⟩⟩
def Vot.enc (v : Vot) : AVal := .agg [.lit (.int .i64 v.view), .lit (.int .i64 v.name), .lit (.int .i64 v.bY), .lit (.int .i64 v.tag)]
/-- a proof -/
structure Prf where
  view : Int
  name : Int
  bys : List Int
  tags : List Int
  deriving DecidableEq
instance : Inhabited Prf := ⟨⟨0, 0, [], []⟩⟩
def Prf.enc (own : Bool) (p : Prf) : AVal := .agg [.lit (.int .i64 p.view), .lit (.int .i64 p.name), .lst own 1 (p.bys.map intA), .lst own 1 (p.tags.map intA)]
/-- a block -/
structure Blk where
  view : Int
  parent : Int
  proof : Prf
  moves : List ByteArray
  bY : Int
instance : DecidableEq Blk := fun a b => by
  cases a; cases b; simp only [Blk.mk.injEq]; infer_instance
instance : Inhabited Blk := ⟨⟨0, 0, default, [], 0⟩⟩
def Blk.enc (own : Bool) (b : Blk) : AVal := .agg [.lit (.int .i64 b.view), .lit (.int .i64 b.parent), b.proof.enc own, .lst own 1 (b.moves.map strA), .lit (.int .i64 b.bY)]
/-- news -/
structure Nws where
  view : Int
  src : Int
  deriving DecidableEq
instance : Inhabited Nws := ⟨⟨0, 0⟩⟩
def Nws.enc (v : Nws) : AVal := .agg [.lit (.int .i64 v.view), .lit (.int .i64 v.src)]
/-- a replica -/
structure Rpl where
  id : Int
  n : Int
  view : Int
  voted : Int
  locked : Int
  proposed : Int
  high : Prf
  blocks : List Blk
  votes : List Vot
  news : List Nws
  done : List Int
instance : DecidableEq Rpl := fun a b => by
  cases a; cases b; simp only [Rpl.mk.injEq]; infer_instance
def Rpl.enc (own : Bool) (r : Rpl) : AVal := .agg [.lit (.int .i64 r.id), .lit (.int .i64 r.n), .lit (.int .i64 r.view), .lit (.int .i64 r.voted), .lit (.int .i64 r.locked), .lit (.int .i64 r.proposed), r.high.enc own, .lst own 8 (r.blocks.map (Blk.enc own)), .lst own 4 (r.votes.map Vot.enc), .lst own 2 (r.news.map Nws.enc), .lst own 1 (r.done.map intA)]
theorem intA_eq {s : Int} : intA s = .lit (.int .i64 s) := nr rfl
theorem Vot.enc_eq {v : Vot} : Vot.enc v = .agg [.lit (.int .i64 v.view), .lit (.int .i64 v.name), .lit (.int .i64 v.bY), .lit (.int .i64 v.tag)] := nr rfl
theorem Prf.enc_eq {own : Bool} {p : Prf} : Prf.enc own p = .agg [.lit (.int .i64 p.view), .lit (.int .i64 p.name), .lst own 1 (p.bys.map intA), .lst own 1 (p.tags.map intA)] := nr rfl
theorem Blk.enc_eq {own : Bool} {b : Blk} : Blk.enc own b = .agg [.lit (.int .i64 b.view), .lit (.int .i64 b.parent), b.proof.enc own, .lst own 1 (b.moves.map strA), .lit (.int .i64 b.bY)] := nr rfl
theorem Nws.enc_eq {v : Nws} : Nws.enc v = .agg [.lit (.int .i64 v.view), .lit (.int .i64 v.src)] := nr rfl
theorem Rpl.enc_eq {own : Bool} {r : Rpl} : Rpl.enc own r = .agg [.lit (.int .i64 r.id), .lit (.int .i64 r.n), .lit (.int .i64 r.view), .lit (.int .i64 r.voted), .lit (.int .i64 r.locked), .lit (.int .i64 r.proposed), r.high.enc own, .lst own 8 (r.blocks.map (Blk.enc own)), .lst own 4 (r.votes.map Vot.enc), .lst own 2 (r.news.map Nws.enc), .lst own 1 (r.done.map intA)] := nr rfl
attribute [go_sem] intA_eq Vot.enc_eq Prf.enc_eq Blk.enc_eq Nws.enc_eq Rpl.enc_eq
end Go.VS

set_option linter.unusedSimpArgs false
set_option linter.unusedVariables false
open Go.Proofs
set_option maxRecDepth 20000
namespace Go.VS
theorem blkNoRefs {own : Bool} {xs : List Blk} : noRefs (xs.map (Blk.enc own)) = true := noRefs_map fun x => by simp only [go_sem]
theorem blkClosed {xs : List Blk} : closedAs (xs.map (Blk.enc true)) = true := closedAs_map fun x => by simp only [go_sem]
theorem blkFlat {xs : List Blk} : flatAs (xs.map (Blk.enc false)) = true := flatAs_map fun x => by simp only [go_sem]
theorem blkShds {own : Bool} {xs : List Blk} : toShds (xs.map (Blk.enc own)) = xs.map (Blk.enc false) := toShds_mapTo fun x => by cases own <;> simp only [go_sem]
attribute [go_sem] blkNoRefs blkClosed blkFlat blkShds
end Go.VS

set_option linter.unusedSimpArgs false
set_option linter.unusedVariables false
open Go.Proofs
set_option maxRecDepth 20000
namespace Go.VS
theorem f6_at : gz.P.funcs[6]? = some Tryd.f6 := by
  have h : Tryd.prog.funcs[6]? = some Tryd.f6 := by kernel_rfl
  exact h
theorem f32_at : gz.P.funcs[32]? = some Tryd.f32 := by
  have h : Tryd.prog.funcs[32]? = some Tryd.f32 := by kernel_rfl
  exact h
/-- what is left behind n -/
def szR (n : Nat) (left : Int) : Int := if (n : Int) ≤ left then left - n else -1
def szL {α : Type} (f : α → Nat) (xs : List α) : Nat := xs.length + (xs.map f).sum
def szN {α : Type} (f : α → Nat) (xs : List α) (i : Nat) : Nat := xs.length + ((xs.take i).map f).sum
theorem szN_zero {α : Type} (f : α → Nat) (xs : List α) : szN f xs 0 = xs.length := by simp [szN]
theorem szN_len {α : Type} (f : α → Nat) (xs : List α) : szN f xs xs.length = szL f xs := by simp [szN, szL]
theorem szN_succ {α : Type} [Inhabited α] (f : α → Nat) (xs : List α) {i : Nat} (h : i < xs.length) : szN f xs (i + 1) = szN f xs i + f (xs.getD i default) := by
  simp only [szN, take_succ_getD h, List.map_append, List.sum_append, List.map_cons, List.map_nil, List.sum_cons, List.sum_nil]
  omega
theorem szN_le {α : Type} (f : α → Nat) (xs : List α) (i : Nat) : szN f xs i ≤ szL f xs := by
  simp only [szN, szL]
  have : (xs.map f).sum = ((xs.take i).map f).sum + ((xs.drop i).map f).sum := by
    rw [← List.sum_append, ← List.map_append, List.take_append_drop]
  omega
theorem szR_lt {n : Nat} {left : Int} (h : left < n) : szR n left = -1 := if_neg (by omega)
theorem szR_le {n : Nat} {left : Int} (h : (n : Int) ≤ left) : szR n left = left - n := if_pos h
theorem szR_add {a b : Nat} {left : Int} (h : (a : Int) ≤ left) : szR b (left - a) = szR (a + b) left := by
  unfold szR
  split <;> split <;> omega
/-- the space that a law gives itself -/
def room (left : Int) : Prop := 0 ≤ left ∧ left ≤ 1048576
theorem ok6 (xs : List ByteArray) (left : Int) (hl : room left) : VCalls gz 6 [.lst false 1 (xs.map strA), .lit (.int .i64 left)] none (fun y _ => y = .lit (.int .i64 (szR (szL ByteArray.size xs) left))) := by
  obtain ⟨hl1, hl2⟩ := hl
  refine VCalls.go (nt := 28) (keep := [0, 1, 4, 5, 11, 15, 26]) (muts := []) (mvs := []) [] f6_at rfl (by kernel_rfl) rfl (by kernel_rfl) rfl (fun i h => by cases h) rfl ?_
  intro hok
  simp only [go_sem] at hok
  simp only [Tryd.f6, Func.code, Option.getD_some]
  simp only [go_sem]
  intro hm
  have hw : IntKind.i64.wrap (left - (xs.length : Int)) = left - (xs.length : Int) := wrap64 (by omega) (by omega)
  simp only [go_sem, hw]
  first | refine branch_ndec (fun h => ?_) (fun h => ?_) | refine branch_dec (fun h => ?_) (fun h => ?_) | refine branch_nbool (fun h => ?_) (fun h => ?_) | refine branch_split (fun h => ?_) (fun h => ?_)
  · simp only [go_sem]
    rw [szR_lt (by have := szN_le ByteArray.size xs 0; rw [szN_zero] at this; omega)]
  · simp only [go_sem]
    refine vm_loopK (α := Nat) (fun i => [(0, .lst false 1 (xs.map strA)), (1, .lit (.int .i64 (left - szN ByteArray.size xs i))), (4, .lit (.int .i64 0)), (5, .lit (.int .i64 i))]) (fun i => i ≤ xs.length ∧ (szN ByteArray.size xs i : Int) ≤ left) (fun i => xs.length - i) 0 ?_ ⟨by omega, by rw [szN_zero]; omega⟩ (by kernel_rfl) (fun _ => rfl) ?_
    · simp only [go_sem, szN_zero]
      try trivial
    · rintro i ⟨hi, hs⟩ hk
      simp only [go_sem]
      intro _
      first | refine branch_ndec (fun h2 => ?_) (fun h2 => ?_) | refine branch_dec (fun h2 => ?_) (fun h2 => ?_) | refine branch_nbool (fun h2 => ?_) (fun h2 => ?_) | refine branch_split (fun h2 => ?_) (fun h2 => ?_)
      · have hlt : i < xs.length := by omega
        have h0 : (0 : Int) ≤ (i : Int) := by omega
        have hn := szN_succ ByteArray.size xs hlt
        simp only [go_sem, h0, hlt]
        refine ⟨h2, fun hb => ?_⟩
        have hw2 : IntKind.i64.wrap (left - ↑(szN ByteArray.size xs i) - ((ByteArray.size (xs.getD i default) : Nat) : Int)) = left - (szN ByteArray.size xs (i + 1) : Nat) := by rw [wrap64 (by omega) (by omega)]; omega
        rw [hw2]
        first | refine branch_ndec (fun h3 => ?_) (fun h3 => ?_) | refine branch_dec (fun h3 => ?_) (fun h3 => ?_) | refine branch_nbool (fun h3 => ?_) (fun h3 => ?_) | refine branch_split (fun h3 => ?_) (fun h3 => ?_)
        · simp only [go_sem]
          rw [szR_lt (by have := szN_le ByteArray.size xs (i + 1); omega)]
        · have hw3 : IntKind.i64.wrap ((i : Int) + 1) = ((i + 1 : Nat) : Int) := by rw [wrap64 (by omega) (by omega)]; omega
          simp only [go_sem, hw3]
          refine again_intro (i + 1) ⟨by omega, by omega⟩ (by omega) ?_
          simp only [go_sem]
          try trivial
      · simp only [go_sem]
        have : i = xs.length := by omega
        subst this
        rw [szN_len] at hs ⊢
        rw [szR_le hs]
theorem ok32 (xs : List Int) (left : Int) (hl : room left) : VCalls gz 32 [.lst false 1 (xs.map intA), .lit (.int .i64 left)] none (fun y _ => y = .lit (.int .i64 (szR xs.length left))) := by
  obtain ⟨hl1, hl2⟩ := hl
  refine VCalls.go (nt := 12) (keep := [0, 1, 4, 10]) (muts := []) (mvs := []) [] f32_at rfl (by kernel_rfl) rfl (by kernel_rfl) rfl (fun i h => by cases h) rfl ?_
  intro hok
  simp only [go_sem] at hok
  simp only [Tryd.f32, Func.code, Option.getD_some]
  simp only [go_sem]
  intro hm
  have hw : IntKind.i64.wrap (left - (xs.length : Int)) = left - (xs.length : Int) := wrap64 (by omega) (by omega)
  simp only [go_sem, hw]
  first | refine branch_ndec (fun h => ?_) (fun h => ?_) | refine branch_dec (fun h => ?_) (fun h => ?_) | refine branch_nbool (fun h => ?_) (fun h => ?_) | refine branch_split (fun h => ?_) (fun h => ?_)
  · simp only [go_sem]
    rw [szR_lt (by omega)]
  · simp only [go_sem]
    rw [szR_le (by omega)]
def Prf.sz (p : Prf) : Nat := p.bys.length + p.tags.length
def Blk.sz (b : Blk) : Nat := b.proof.sz + szL ByteArray.size b.moves
def Rpl.sz (r : Rpl) : Nat := r.high.sz + szL Blk.sz r.blocks + r.votes.length + r.news.length + r.done.length
end Go.VS

set_option linter.unusedSimpArgs false
set_option linter.unusedVariables false
open Go.Proofs
set_option maxRecDepth 20000
namespace Go.VS
theorem f9_at : gz.P.funcs[9]? = some Tryd.f9 := by
  have h : Tryd.prog.funcs[9]? = some Tryd.f9 := by kernel_rfl
  exact h
theorem f35_at : gz.P.funcs[35]? = some Tryd.f35 := by
  have h : Tryd.prog.funcs[35]? = some Tryd.f35 := by kernel_rfl
  exact h
theorem ok9 (xs : List ByteArray) (hs : xs.length ≤ 1048576) : VCalls gz 9 [.lst false 1 (xs.map strA)] none (fun y _ => y = .lst true 1 (xs.map strA)) := by
  refine VCalls.go (nt := 22) (keep := [0, 2, 3, 4, 11]) (muts := []) (mvs := []) [] f9_at rfl (by kernel_rfl) rfl (by kernel_rfl) rfl (fun i h => by cases h) rfl ?_
  intro hok
  simp only [go_sem] at hok
  simp only [Tryd.f9, Func.code, Option.getD_some]
  simp only [go_sem]
  intro hm
  refine ⟨by omega, by omega, ⟨by omega, by omega⟩, ?_⟩
  refine vm_loopK (α := Nat) (fun i => [(0, .lst false 1 (xs.map strA)), (3, .lst true 1 ((midL xs (List.replicate xs.length default) i).map strA)), (4, .lit (.int .i64 i))]) (fun i => i ≤ xs.length) (fun i => xs.length - i) 0 ?_ (by omega) (by kernel_rfl) (fun _ => rfl) ?_
  · simp only [go_sem]
    refine ⟨?_, rfl⟩
    rw [midL_zero, List.map_replicate]
    rfl
  · intro i hi hk
    have hml : (midL xs (List.replicate xs.length default) i).length = xs.length := midL_length hi (by simp)
    simp only [go_sem]
    intro _
    first | refine branch_ndec (fun h2 => ?_) (fun h2 => ?_) | refine branch_dec (fun h2 => ?_) (fun h2 => ?_) | refine branch_nbool (fun h2 => ?_) (fun h2 => ?_) | refine branch_split (fun h2 => ?_) (fun h2 => ?_)
    · have hlt : i < xs.length := by omega
      have h0 : (0 : Int) ≤ (i : Int) := by omega
      have hset := midL_set xs (List.replicate xs.length default) hlt (by simp)
      have hw3 : IntKind.i64.wrap ((i : Int) + 1) = ((i + 1 : Nat) : Int) := by rw [wrap64 (by omega) (by omega)]; omega
      simp only [go_sem, h0, hlt, h2, hml, hw3, hset]
      refine again_intro (i + 1) (by omega) (by omega) ?_
      simp only [go_sem]
      all_goals first | trivial | exact (modify_enc (f := strA) (v := xs.getD i default) rfl).trans (by rw [hset])
    · simp only [go_sem]
      have : i = xs.length := by omega
      subst this
      rw [midL_all xs (by simp)]
theorem ok35 (xs : List Int) (hs : xs.length ≤ 1048576) : VCalls gz 35 [.lst false 1 (xs.map intA)] none (fun y _ => y = .lst true 1 (xs.map intA)) := by
  refine VCalls.go (nt := 22) (keep := [0, 2, 3, 4, 11]) (muts := []) (mvs := []) [] f35_at rfl (by kernel_rfl) rfl (by kernel_rfl) rfl (fun i h => by cases h) rfl ?_
  intro hok
  simp only [go_sem] at hok
  simp only [Tryd.f35, Func.code, Option.getD_some]
  simp only [go_sem]
  intro hm
  refine ⟨by omega, by omega, ⟨by omega, by omega⟩, ?_⟩
  refine vm_loopK (α := Nat) (fun i => [(0, .lst false 1 (xs.map intA)), (3, .lst true 1 ((midL xs (List.replicate xs.length default) i).map intA)), (4, .lit (.int .i64 i))]) (fun i => i ≤ xs.length) (fun i => xs.length - i) 0 ?_ (by omega) (by kernel_rfl) (fun _ => rfl) ?_
  · simp only [go_sem]
    refine ⟨?_, rfl⟩
    rw [midL_zero, List.map_replicate]
    rfl
  · intro i hi hk
    have hml : (midL xs (List.replicate xs.length default) i).length = xs.length := midL_length hi (by simp)
    simp only [go_sem]
    intro _
    first | refine branch_ndec (fun h2 => ?_) (fun h2 => ?_) | refine branch_dec (fun h2 => ?_) (fun h2 => ?_) | refine branch_nbool (fun h2 => ?_) (fun h2 => ?_) | refine branch_split (fun h2 => ?_) (fun h2 => ?_)
    · have hlt : i < xs.length := by omega
      have h0 : (0 : Int) ≤ (i : Int) := by omega
      have hset := midL_set xs (List.replicate xs.length default) hlt (by simp)
      have hw3 : IntKind.i64.wrap ((i : Int) + 1) = ((i + 1 : Nat) : Int) := by rw [wrap64 (by omega) (by omega)]; omega
      simp only [go_sem, h0, hlt, h2, hml, hw3, hset]
      refine again_intro (i + 1) (by omega) (by omega) ?_
      simp only [go_sem]
      all_goals first | trivial | exact (modify_enc (f := intA) (v := xs.getD i default) rfl).trans (by rw [hset])
    · simp only [go_sem]
      have : i = xs.length := by omega
      subst this
      rw [midL_all xs (by simp)]
end Go.VS

set_option linter.unusedSimpArgs false
set_option linter.unusedVariables false
open Go.Proofs
set_option maxRecDepth 20000
namespace Go.VS
theorem f13_at : gz.P.funcs[13]? = some Tryd.f13 := by
  have h : Tryd.prog.funcs[13]? = some Tryd.f13 := by kernel_rfl
  exact h
theorem f12_at : gz.P.funcs[12]? = some Tryd.f12 := by
  have h : Tryd.prog.funcs[12]? = some Tryd.f12 := by kernel_rfl
  exact h
theorem ok13 (xs ys : List ByteArray) : VCalls gz 13 [.lst false 1 (xs.map strA), .lst false 1 (ys.map strA)] none (fun y _ => y = .lit (.bool (decide (xs = ys)))) := by
  refine VCalls.go (nt := 26) (keep := [0, 1, 4, 5, 10, 14, 25]) (muts := []) (mvs := []) [(6, .chain true [0, 1, 2, 3, 4, 5, 6, 7, 8])] f13_at rfl (by kernel_rfl) rfl (by kernel_rfl) rfl (fun i h => by cases h) rfl ?_
  intro hok
  simp only [go_sem] at hok
  simp only [Tryd.f13, Func.code, Option.getD_some]
  simp only [go_sem]
  intro hm hm2
  first | refine branch_ndec (fun h => ?_) (fun h => ?_) | refine branch_dec (fun h => ?_) (fun h => ?_) | refine branch_nbool (fun h => ?_) (fun h => ?_) | refine branch_split (fun h => ?_) (fun h => ?_)
  rotate_left
  · simp only [go_sem]
    have : ¬ xs = ys := fun e => h (by rw [e])
    simp only [this, decide_false]
  · have hll : xs.length = ys.length := by omega
    simp only [go_sem]
    refine vm_loopK (α := Nat) (fun i => [(0, .lst false 1 (xs.map strA)), (1, .lst false 1 (ys.map strA)), (4, .lit (.bool false)), (5, .lit (.int .i64 i))]) (fun i => i ≤ xs.length ∧ ∀ j, j < i → xs.getD j default = ys.getD j default) (fun i => xs.length - i) 0 ?_ ⟨by omega, fun j hj => by omega⟩ (by kernel_rfl) (fun _ => rfl) ?_
    · simp only [go_sem]
      try trivial
    · rintro i ⟨hi, he⟩ hk
      simp only [go_sem]
      intro _
      first | refine branch_ndec (fun h2 => ?_) (fun h2 => ?_) | refine branch_dec (fun h2 => ?_) (fun h2 => ?_) | refine branch_nbool (fun h2 => ?_) (fun h2 => ?_) | refine branch_split (fun h2 => ?_) (fun h2 => ?_)
      · have hlt : i < xs.length := by omega
        have hlt2 : i < ys.length := by omega
        have h0 : (0 : Int) ≤ (i : Int) := by omega
        have h3 : (i : Int) < (ys.length : Int) := by omega
        have hw3 : IntKind.i64.wrap ((i : Int) + 1) = ((i + 1 : Nat) : Int) := by rw [wrap64 (by omega) (by omega)]; omega
        simp only [go_sem, h0, hlt, h2, hlt2, h3]
        first | refine branch_ndec (fun h4 => ?_) (fun h4 => ?_) | refine branch_dec (fun h4 => ?_) (fun h4 => ?_) | refine branch_nbool (fun h4 => ?_) (fun h4 => ?_) | refine branch_split (fun h4 => ?_) (fun h4 => ?_)
        rotate_left
        · simp only [go_sem]
          have : ¬ xs = ys := fun e => h4 (by rw [e])
          simp only [this, decide_false]
        · simp only [go_sem, hw3]
          refine again_intro (i + 1) ⟨by omega, fun j hj => ?_⟩ (by omega) ?_
          · by_cases hji : j < i
            · exact he j hji
            · have : j = i := by omega
              subst this
              exact h4
          · simp only [go_sem]
            try trivial
      · simp only [go_sem]
        have : i = xs.length := by omega
        subst this
        have : xs = ys := ext_getD hll he
        simp only [this, decide_true]
theorem ok12 (xs ys : List Int) : VCalls gz 12 [.lst false 1 (xs.map intA), .lst false 1 (ys.map intA)] none (fun y _ => y = .lit (.bool (decide (xs = ys)))) := by
  refine VCalls.go (nt := 26) (keep := [0, 1, 4, 5, 10, 14, 25]) (muts := []) (mvs := []) [(6, .chain true [0, 1, 2, 3, 4, 5, 6, 7, 8])] f12_at rfl (by kernel_rfl) rfl (by kernel_rfl) rfl (fun i h => by cases h) rfl ?_
  intro hok
  simp only [go_sem] at hok
  simp only [Tryd.f12, Func.code, Option.getD_some]
  simp only [go_sem]
  intro hm hm2
  first | refine branch_ndec (fun h => ?_) (fun h => ?_) | refine branch_dec (fun h => ?_) (fun h => ?_) | refine branch_nbool (fun h => ?_) (fun h => ?_) | refine branch_split (fun h => ?_) (fun h => ?_)
  rotate_left
  · simp only [go_sem]
    have : ¬ xs = ys := fun e => h (by rw [e])
    simp only [this, decide_false]
  · have hll : xs.length = ys.length := by omega
    simp only [go_sem]
    refine vm_loopK (α := Nat) (fun i => [(0, .lst false 1 (xs.map intA)), (1, .lst false 1 (ys.map intA)), (4, .lit (.bool false)), (5, .lit (.int .i64 i))]) (fun i => i ≤ xs.length ∧ ∀ j, j < i → xs.getD j default = ys.getD j default) (fun i => xs.length - i) 0 ?_ ⟨by omega, fun j hj => by omega⟩ (by kernel_rfl) (fun _ => rfl) ?_
    · simp only [go_sem]
      try trivial
    · rintro i ⟨hi, he⟩ hk
      simp only [go_sem]
      intro _
      first | refine branch_ndec (fun h2 => ?_) (fun h2 => ?_) | refine branch_dec (fun h2 => ?_) (fun h2 => ?_) | refine branch_nbool (fun h2 => ?_) (fun h2 => ?_) | refine branch_split (fun h2 => ?_) (fun h2 => ?_)
      · have hlt : i < xs.length := by omega
        have hlt2 : i < ys.length := by omega
        have h0 : (0 : Int) ≤ (i : Int) := by omega
        have h3 : (i : Int) < (ys.length : Int) := by omega
        have hw3 : IntKind.i64.wrap ((i : Int) + 1) = ((i + 1 : Nat) : Int) := by rw [wrap64 (by omega) (by omega)]; omega
        simp only [go_sem, h0, hlt, h2, hlt2, h3]
        first | refine branch_ndec (fun h4 => ?_) (fun h4 => ?_) | refine branch_dec (fun h4 => ?_) (fun h4 => ?_) | refine branch_nbool (fun h4 => ?_) (fun h4 => ?_) | refine branch_split (fun h4 => ?_) (fun h4 => ?_)
        rotate_left
        · simp only [go_sem]
          have : ¬ xs = ys := fun e => h4 (by rw [e])
          simp only [this, decide_false]
        · simp only [go_sem, hw3]
          refine again_intro (i + 1) ⟨by omega, fun j hj => ?_⟩ (by omega) ?_
          · by_cases hji : j < i
            · exact he j hji
            · have : j = i := by omega
              subst this
              exact h4
          · simp only [go_sem]
            try trivial
      · simp only [go_sem]
        have : i = xs.length := by omega
        subst this
        have : xs = ys := ext_getD hll he
        simp only [this, decide_true]
end Go.VS
