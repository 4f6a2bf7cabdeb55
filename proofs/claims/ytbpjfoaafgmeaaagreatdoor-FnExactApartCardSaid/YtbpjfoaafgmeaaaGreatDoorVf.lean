/- VS: functions by the machine. -/
import Derived.Test.YtbpjfoaafgmeaaaGreatDoorVt
import Derived.Test.YtbpjfoaafgmeaaaGreatDoorVn
set_option linter.unusedSimpArgs false
set_option linter.unusedVariables false
open Go.Proofs
set_option maxRecDepth 20000
namespace Go.VS
theorem byteA_eq {b : UInt8} : byteA b = .lit (.int .u8 b.toNat) := nr rfl
attribute [go_sem] byteA_eq
theorem f52_at : gz.P.funcs[52]? = some Tryz.f52 := by
  have h : Tryz.prog.funcs[52]? = some Tryz.f52 := by kernel_rfl
  exact h
theorem f38_at : gz.P.funcs[38]? = some Tryz.f38 := by
  have h : Tryz.prog.funcs[38]? = some Tryz.f38 := by kernel_rfl
  exact h
theorem f102_at : gz.P.funcs[102]? = some Tryz.f102 := by
  have h : Tryz.prog.funcs[102]? = some Tryz.f102 := by kernel_rfl
  exact h
theorem ok52 (a b d : Int) : VCalls gz 52 [.lit (.int .i64 a), .lit (.int .i64 b), .lit (.int .i64 d)] none (fun y _ => y = .lit (.bool (decide (b ≤ a ∧ a ≤ d)))) := by
  refine VCalls.go (nt := 15) (keep := [0, 1, 2, 6]) (muts := []) (mvs := []) [] f52_at rfl (by kernel_rfl) rfl (by kernel_rfl) rfl (fun i h => by cases h) rfl ?_
  intro hok
  simp only [go_sem] at hok
  simp only [Tryz.f52, Func.code, Option.getD_some]
  simp only [go_sem]
  first | refine gj_ndec (fun h => ?_) (fun h => ?_) | refine gj_dec (fun h => ?_) (fun h => ?_) | refine gj_nbool (fun h => ?_) (fun h => ?_) | refine gj_bool (fun h => ?_) (fun h => ?_)
  · simp only [go_sem, h]
  · simp only [go_sem, h]
theorem ok38 (a b d : Int) : VCalls gz 38 [.lit (.int .i64 a), .lit (.int .i64 b), .lit (.int .i64 d)] none (fun y _ => y = .lit (.bool (decide (b ≤ a ∧ a ≤ d)))) := by
  refine VCalls.go (nt := 15) (keep := [0, 1, 2, 6]) (muts := []) (mvs := []) [] f38_at rfl (by kernel_rfl) rfl (by kernel_rfl) rfl (fun i h => by cases h) rfl ?_
  intro hok
  simp only [go_sem] at hok
  simp only [Tryz.f38, Func.code, Option.getD_some]
  simp only [go_sem]
  first | refine gj_ndec (fun h => ?_) (fun h => ?_) | refine gj_dec (fun h => ?_) (fun h => ?_) | refine gj_nbool (fun h => ?_) (fun h => ?_) | refine gj_bool (fun h => ?_) (fun h => ?_)
  · simp only [go_sem, h]
  · simp only [go_sem, h]
theorem ok102 (a b : Int) : VCalls gz 102 [.lit (.int .i64 a), .lit (.int .i64 b)] none (fun y _ => y = .lit (.int .i64 (if b < a then a else b))) := by
  refine VCalls.go (nt := 10) (keep := [0, 1, 4, 7]) (muts := []) (mvs := []) [] f102_at rfl (by kernel_rfl) rfl (by kernel_rfl) rfl (fun i h => by cases h) rfl ?_
  intro hok
  simp only [go_sem] at hok
  simp only [Tryz.f102, Func.code, Option.getD_some]
  simp only [go_sem]
  first | refine branch_ndec (fun h => ?_) (fun h => ?_) | refine branch_dec (fun h => ?_) (fun h => ?_) | refine branch_nbool (fun h => ?_) (fun h => ?_) | refine branch_split (fun h => ?_) (fun h => ?_)
  · simp only [go_sem, h]
  · simp only [go_sem, h]
end Go.VS

set_option linter.unusedSimpArgs false
set_option linter.unusedVariables false
open Go.Proofs
set_option maxRecDepth 20000
namespace Go.VS
/-- a text -/
def strA (s : ByteArray) : AVal := .lit (.string s)
/-- a patch -/
structure Patch where
  place : Int
  text : ByteArray
  deriving DecidableEq
instance : Inhabited Patch := ⟨⟨0, ByteArray.empty⟩⟩
def Patch.enc (p : Patch) : AVal := .agg [.lit (.int .i64 p.place), .lit (.string p.text)]
/-- a device -/
structure Dev where
  secs : List ByteArray
  late : List Patch
def Dev.enc (own : Bool) (d : Dev) : AVal := .agg [.lst own 1 (d.secs.map strA), .lst own 2 (d.late.map Patch.enc)]
theorem strA_eq {s : ByteArray} : strA s = .lit (.string s) := nr rfl
theorem Patch.enc_eq {p : Patch} : Patch.enc p = .agg [.lit (.int .i64 p.place), .lit (.string p.text)] := nr rfl
theorem Dev.enc_eq {own : Bool} {d : Dev} : Dev.enc own d = .agg [.lst own 1 (d.secs.map strA), .lst own 2 (d.late.map Patch.enc)] := nr rfl
attribute [go_sem] strA_eq Patch.enc_eq Dev.enc_eq
theorem f153_at : gz.P.funcs[153]? = some Tryz.f153 := by
  have h : Tryz.prog.funcs[153]? = some Tryz.f153 := by kernel_rfl
  exact h
theorem f143_at : gz.P.funcs[143]? = some Tryz.f143 := by
  have h : Tryz.prog.funcs[143]? = some Tryz.f143 := by kernel_rfl
  exact h
def Dev.fits (d : Dev) (a : Int) (t : ByteArray) : Bool := decide (0 ≤ a ∧ a ≤ (d.secs.length : Int) - 1) && decide ((t.size : Int) ≤ 400)
/-- which of a list is the first -/
def idxOf {α : Type} (p : α → Bool) (xs : List α) : Int := if xs.any p = true then (xs.findIdx p : Int) else -1
theorem idxOf_hit {α : Type} {p : α → Bool} {xs : List α} {i : Nat} (h : ∀ x ∈ xs.take i, p x = false) (hi : i < xs.length) (hp : p xs[i] = true) : idxOf p xs = i := by
  have e : xs = xs.take i ++ xs[i] :: xs.drop (i + 1) := by rw [← List.drop_eq_getElem_cons hi, List.take_append_drop]
  have h1 : xs.any p = true := List.any_eq_true.2 ⟨_, List.getElem_mem hi, hp⟩
  simp only [idxOf, h1, if_true]
  congr 1
  apply (List.findIdx_eq hi).2
  refine ⟨hp, fun j hj => ?_⟩
  refine h _ ?_
  rw [List.mem_take_iff_getElem]
  exact ⟨j, by omega, rfl⟩
theorem idxOf_none {α : Type} {p : α → Bool} {xs : List α} (h : ∀ x ∈ xs, p x = false) : idxOf p xs = -1 := by
  have h1 : xs.any p = false := List.any_eq_false.2 fun x hx => by simp [h x hx]
  simp only [idxOf, h1, Bool.false_eq_true, if_false]
theorem idxOf_nonneg {α : Type} {p : α → Bool} {xs : List α} : (0 ≤ idxOf p xs) ↔ xs.any p = true := by
  unfold idxOf
  split
  · rename_i h
    simp only [h, iff_true]
    omega
  · rename_i h
    simp only [h]
    simp


theorem ok153 (xs : List ByteArray) (f : Nat) (caps : List AVal) (p : ByteArray → Bool) (hc : shdAs caps = true) (hg : caps.all (fun x => !isAggA x) = true) (hf : ∀ x ∈ xs, VCalls gz f (strA x :: caps) none (fun y _ => y = .lit (.bool (p x)))) :
    VCalls gz 153 [.lst false 1 (xs.map strA), .fn f caps] none (fun y _ => y = .lit (.int .i64 (idxOf p xs))) := by
  refine VCalls.go (nt := 19) (keep := [0, 1, 4, 5, 7, 8, 9, 16]) (muts := []) (mvs := []) [] f153_at rfl (by kernel_rfl) rfl (by kernel_rfl) rfl (fun i h => by cases h) rfl ?_
  intro hok
  simp only [go_sem] at hok
  simp only [Tryz.f153, Func.code, Option.getD_some]
  simp only [go_sem]
  simp only [go_sem, shds_kill _ hc, shds_copy _ _ _ hc]
  intro hl
  refine vm_loopK (α := Nat) (fun i => [(0, .lst false 1 (xs.map strA)), (1, .fn f caps), (4, .lit (.int .i64 0)), (7, .lit (.int .i64 xs.length)), (8, .lit (.int .i64 i))]) (fun i => i ≤ xs.length ∧ ∀ x ∈ xs.take i, p x = false) (fun i => xs.length - i) 0 ?_ ⟨by omega, by simp⟩ (by kernel_rfl) (fun _ => rfl) ?_
  · simp only [go_sem]
    trivial
  · intro i hi _
    simp only [go_sem]
    first | refine branch_ndec (fun h => ?_) (fun h => ?_) | refine branch_dec (fun h => ?_) (fun h => ?_) | refine branch_nbool (fun h => ?_) (fun h => ?_) | refine branch_split (fun h => ?_) (fun h => ?_)
    · have hlt : i < xs.length := by omega
      simp only [go_sem, shds_kill _ hc, shds_copy _ _ _ hc]
      refine ⟨by omega, by omega, hlt, hg, ?_⟩
      refine call_lend ?_
      simp only [go_sem, shds_snap _ hc]
      refine callN.eq (hf _ (getD_mem hlt)) (by simp only [go_sem]) ?_
      simp only [go_sem, shds_kill _ hc, shds_copy _ _ _ hc]
      have hget : xs.getD i default = xs[i] := by simp [List.getD, List.getElem?_eq_getElem hlt]
      rw [hget]
      refine branch_split (fun h2 => ?_) (fun h2 => ?_)
      · simp only [go_sem, shds_kill _ hc, shds_copy _ _ _ hc]
        exact (idxOf_hit hi.2 hlt h2).symm
      · simp only [go_sem, shds_kill _ hc, shds_copy _ _ _ hc]
        simp (disch := omega) only [wrap64, wrapU64, wrapU32, wrapU8]
        refine again_intro (i + 1) ⟨by omega, ?_⟩ (by omega) ?_
        · intro x hx
          rw [take_succ_getD hlt, List.mem_append, hget] at hx
          rcases hx with hx | hx
          · exact hi.2 x hx
          · simp only [List.mem_singleton] at hx
            rw [hx]
            exact h2
        · simp only [go_sem]
          omega
    · simp only [go_sem]
      have hie : i = xs.length := by omega
      refine (idxOf_none ?_).symm
      have := hi.2
      rwa [hie, List.take_length] at this
theorem ok143 (xs : List ByteArray) (f : Nat) (caps : List AVal) (p : ByteArray → Bool) (hc : shdAs caps = true) (hg : caps.all (fun x => !isAggA x) = true) (hf : ∀ x ∈ xs, VCalls gz f (strA x :: caps) none (fun y _ => y = .lit (.bool (p x)))) :
    VCalls gz 143 [.lst false 1 (xs.map strA), .fn f caps] none (fun y _ => y = .lit (.bool (xs.any p))) := by
  refine VCalls.go (nt := 9) (keep := [0, 1, 4]) (muts := []) (mvs := []) [] f143_at rfl (by kernel_rfl) rfl (by kernel_rfl) rfl (fun i h => by cases h) rfl ?_
  intro hok
  simp only [go_sem] at hok
  simp only [Tryz.f143, Func.code, Option.getD_some]
  simp only [go_sem]
  simp only [go_sem, shds_kill _ hc, shds_copy _ _ _ hc]
  refine call_lend ?_
  simp only [go_sem, shds_snap _ hc]
  refine callN.eq (ok153 xs f caps p hc hg hf) (by simp only [go_sem]) ?_
  simp only [go_sem, shds_kill _ hc, shds_copy _ _ _ hc]
  simp only [idxOf_nonneg, Bool.decide_eq_true]
end Go.VS

set_option linter.unusedSimpArgs false
set_option linter.unusedVariables false
open Go.Proofs
set_option maxRecDepth 20000
namespace Go.VS
theorem f148_at : gz.P.funcs[148]? = some Tryz.f148 := by
  have h : Tryz.prog.funcs[148]? = some Tryz.f148 := by kernel_rfl
  exact h
/-- a device is right -/
def Dev.ok (d : Dev) : Bool := decide (1 ≤ (d.secs.length : Int) ∧ (d.secs.length : Int) ≤ 16) && decide ((d.late.length : Int) ≤ 30) && !(d.secs.any fun s => decide (400 < (s.size : Int))) && !(d.late.any fun p => !d.fits p.place p.text)
end Go.VS

set_option linter.unusedSimpArgs false
set_option linter.unusedVariables false
open Go.Proofs
set_option maxRecDepth 20000
namespace Go.VS

theorem ok148 (xs : List ByteArray) (hx : xs.length * 16 ≤ 140737488355328) : VCalls gz 148 [.lst false 1 (xs.map strA)] none (fun y _ => y = .lst true 1 (xs.map strA)) := by
  refine VCalls.go (nt := 8) (keep := [0, 2, 4]) (muts := []) (mvs := []) [] f148_at rfl (by kernel_rfl) rfl (by kernel_rfl) rfl (fun i h => by cases h) rfl ?_
  intro hok
  simp only [go_sem] at hok
  simp only [Tryz.f148, Func.code, Option.getD_some]
  simp only [go_sem]
  intro b hb
  first | refine branch_ndec (fun h => ?_) (fun h => ?_) | refine branch_dec (fun h => ?_) (fun h => ?_) | refine branch_nbool (fun h => ?_) (fun h => ?_) | refine branch_split (fun h => ?_) (fun h => ?_)
  · simp only [go_sem]
    have h0 : xs = [] := List.eq_nil_of_length_eq_zero (Nat.eq_zero_of_not_pos fun h1 => by rw [hb h1] at h; cases h)
    subst h0
    simp only [go_sem]
  · simp only [go_sem]
    exact ⟨by omega, by omega⟩
/-- as much as a machine holds -/
def Dev.small (d : Dev) : Prop := d.secs.length * 16 ≤ 140737488355328 ∧ d.late.length * 24 ≤ 140737488355328
end Go.VS

set_option linter.unusedSimpArgs false
set_option linter.unusedVariables false
open Go.Proofs
set_option maxRecDepth 20000
namespace Go.VS
/-- the first i of one list, the rest of another -/
def midL {α : Type} (xs ys : List α) (i : Nat) : List α := xs.take i ++ ys.drop i
theorem midL_zero {α : Type} (xs ys : List α) : midL xs ys 0 = ys := by simp [midL]
theorem midL_length {α : Type} {xs ys : List α} {i : Nat} (hi : i ≤ xs.length) (h : ys.length = xs.length) : (midL xs ys i).length = xs.length := by simp [midL]; omega
theorem midL_all {α : Type} (xs : List α) {ys : List α} (h : ys.length = xs.length) : midL xs ys xs.length = xs := by
  simp only [midL, List.take_length]
  rw [List.drop_eq_nil_of_le (by omega), List.append_nil]
theorem midL_get {α : Type} [Inhabited α] {xs ys : List α} {i : Nat} (hi : i < xs.length) (h : ys.length = xs.length) : (midL xs ys i).getD i default = ys.getD i default := by
  simp only [midL, List.getD]
  rw [List.getElem?_append_right (by rw [List.length_take]; omega), List.length_take, Nat.min_eq_left (Nat.le_of_lt hi), Nat.sub_self, List.getElem?_drop, Nat.add_zero]
theorem midL_mod {α : Type} [Inhabited α] {xs ys : List α} {i : Nat} (hi : i < xs.length) (h : ys.length = xs.length) {f : α → α} (hf : f (ys.getD i default) = xs.getD i default) : (midL xs ys i).modify i f = midL xs ys (i + 1) := by
  have hy : i < ys.length := by omega
  have e1 : ys.drop i = ys[i] :: ys.drop (i + 1) := List.drop_eq_getElem_cons hy
  have e2 : ys.getD i default = ys[i] := by simp [List.getD, hy]
  have e3 : xs.getD i default = xs[i] := by simp [List.getD, hi]
  rw [e2, e3] at hf
  have e4 : xs.take (i + 1) = xs.take i ++ [xs[i]] := List.take_succ_eq_append_getElem hi
  apply List.ext_getElem?
  intro j
  simp only [midL, e1, e4, List.getElem?_modify]
  by_cases hj : i = j
  · subst hj
    have hl : (xs.take i).length = i := by simp; omega
    rw [List.getElem?_append_right (by omega), hl, Nat.sub_self, List.append_assoc, List.getElem?_append_right (by omega), hl, Nat.sub_self]
    simp [hf, hy]
  · simp only [if_neg hj, Option.map_id']
    by_cases hlt : j < i
    · rw [List.getElem?_append_left (by simp; omega), List.append_assoc, List.getElem?_append_left (by simp; omega)]
      simp
    · rw [List.getElem?_append_right (by simp; omega), List.append_assoc, List.getElem?_append_right (by simp; omega)]
      have hl : (xs.take i).length = i := by simp; omega
      rw [hl]
      obtain ⟨k, rfl⟩ : ∃ k, j = i + (k + 1) := ⟨j - i - 1, by omega⟩
      rw [show i + (k + 1) - i = k + 1 by omega]
      simp [show i + (k + 1) = i + 1 + k by omega]
theorem modify_set {α : Type} {xs : List α} {i : Nat} {v : α} : xs.modify i (fun _ => v) = xs.set i v := by
  apply List.ext_getElem?
  intro j
  simp only [List.getElem?_modify, List.getElem?_set]
  by_cases hj : i = j
  · subst hj
    by_cases hl : i < xs.length
    · simp [hl]
    · simp [hl]
  · simp [hj]
theorem modify_enc {α : Type} {f : α → AVal} {xs : List α} {i : Nat} {v : α} {y : AVal} (h : y = f v) : (xs.map f).modify i (putF [] y) = (xs.set i v).map f := by
  subst h
  exact modify_map
theorem midL_set {α : Type} [Inhabited α] (xs ys : List α) {i : Nat} (hi : i < xs.length) (h : ys.length = xs.length) : (midL xs ys i).set i (xs.getD i default) = midL xs ys (i + 1) := by
  rw [← modify_set]
  exact midL_mod hi h rfl
theorem ext_getD {α : Type} [Inhabited α] {xs ys : List α} (h : xs.length = ys.length) (he : ∀ j, j < xs.length → xs.getD j default = ys.getD j default) : xs = ys := by
  apply List.ext_getElem h
  intro j h1 h2
  have := he j h1
  simpa [List.getD, h1, h2] using this
end Go.VS

set_option linter.unusedSimpArgs false
set_option linter.unusedVariables false
open Go.Proofs
set_option maxRecDepth 20000
namespace Go.VS
/-- a number as an element -/
def intA (n : Int) : AVal := .lit (.int .i64 n)
/-- a vote -/
structure Vot where
  view : Int
  name : Int
  bY : Int
  tag : Int
  deriving DecidableEq
instance : Inhabited Vot := ⟨⟨0, 0, 0, 0⟩⟩
def Vot.enc (v : Vot) : AVal := .agg [.lit (.int .i64 v.view), .lit (.int .i64 v.name), .lit (.int .i64 v.bY), .lit (.int .i64 v.tag)]
/-- a proof -/
structure Prf where
  view : Int
  name : Int
  bys : List Int
  tags : List Int
  deriving DecidableEq
instance : Inhabited Prf := ⟨⟨0, 0, [], []⟩⟩
def Prf.enc (own : Bool) (p : Prf) : AVal := .agg [.lit (.int .i64 p.view), .lit (.int .i64 p.name), .lst own 1 (p.bys.map intA), .lst own 1 (p.tags.map intA)]
/-- a block -/
structure Blk where
  view : Int
  parent : Int
  proof : Prf
  moves : List ByteArray
  bY : Int
instance : DecidableEq Blk := fun a b => by
  cases a; cases b; simp only [Blk.mk.injEq]; infer_instance
instance : Inhabited Blk := ⟨⟨0, 0, default, [], 0⟩⟩
def Blk.enc (own : Bool) (b : Blk) : AVal := .agg [.lit (.int .i64 b.view), .lit (.int .i64 b.parent), b.proof.enc own, .lst own 1 (b.moves.map strA), .lit (.int .i64 b.bY)]
/-- news -/
structure Nws where
  view : Int
  src : Int
  deriving DecidableEq
instance : Inhabited Nws := ⟨⟨0, 0⟩⟩
def Nws.enc (v : Nws) : AVal := .agg [.lit (.int .i64 v.view), .lit (.int .i64 v.src)]
/-- a replica -/
structure Rpl where
  id : Int
  n : Int
  view : Int
  voted : Int
  locked : Int
  proposed : Int
  high : Prf
  blocks : List Blk
  votes : List Vot
  news : List Nws
  done : List Int
instance : DecidableEq Rpl := fun a b => by
  cases a; cases b; simp only [Rpl.mk.injEq]; infer_instance
def Rpl.enc (own : Bool) (r : Rpl) : AVal := .agg [.lit (.int .i64 r.id), .lit (.int .i64 r.n), .lit (.int .i64 r.view), .lit (.int .i64 r.voted), .lit (.int .i64 r.locked), .lit (.int .i64 r.proposed), r.high.enc own, .lst own 8 (r.blocks.map (Blk.enc own)), .lst own 4 (r.votes.map Vot.enc), .lst own 2 (r.news.map Nws.enc), .lst own 1 (r.done.map intA)]
theorem intA_eq {s : Int} : intA s = .lit (.int .i64 s) := nr rfl
theorem Vot.enc_eq {v : Vot} : Vot.enc v = .agg [.lit (.int .i64 v.view), .lit (.int .i64 v.name), .lit (.int .i64 v.bY), .lit (.int .i64 v.tag)] := nr rfl
theorem Prf.enc_eq {own : Bool} {p : Prf} : Prf.enc own p = .agg [.lit (.int .i64 p.view), .lit (.int .i64 p.name), .lst own 1 (p.bys.map intA), .lst own 1 (p.tags.map intA)] := nr rfl
theorem Blk.enc_eq {own : Bool} {b : Blk} : Blk.enc own b = .agg [.lit (.int .i64 b.view), .lit (.int .i64 b.parent), b.proof.enc own, .lst own 1 (b.moves.map strA), .lit (.int .i64 b.bY)] := nr rfl
theorem Nws.enc_eq {v : Nws} : Nws.enc v = .agg [.lit (.int .i64 v.view), .lit (.int .i64 v.src)] := nr rfl
theorem Rpl.enc_eq {own : Bool} {r : Rpl} : Rpl.enc own r = .agg [.lit (.int .i64 r.id), .lit (.int .i64 r.n), .lit (.int .i64 r.view), .lit (.int .i64 r.voted), .lit (.int .i64 r.locked), .lit (.int .i64 r.proposed), r.high.enc own, .lst own 8 (r.blocks.map (Blk.enc own)), .lst own 4 (r.votes.map Vot.enc), .lst own 2 (r.news.map Nws.enc), .lst own 1 (r.done.map intA)] := nr rfl
attribute [go_sem] intA_eq Vot.enc_eq Prf.enc_eq Blk.enc_eq Nws.enc_eq Rpl.enc_eq
end Go.VS

set_option linter.unusedSimpArgs false
set_option linter.unusedVariables false
open Go.Proofs
set_option maxRecDepth 20000
namespace Go.VS
theorem blkNoRefs {own : Bool} {xs : List Blk} : noRefs (xs.map (Blk.enc own)) = true := noRefs_map fun x => by simp only [go_sem]
theorem blkClosed {xs : List Blk} : closedAs (xs.map (Blk.enc true)) = true := closedAs_map fun x => by simp only [go_sem]
theorem blkFlat {xs : List Blk} : flatAs (xs.map (Blk.enc false)) = true := flatAs_map fun x => by simp only [go_sem]
theorem blkShds {own : Bool} {xs : List Blk} : toShds (xs.map (Blk.enc own)) = xs.map (Blk.enc false) := toShds_mapTo fun x => by cases own <;> simp only [go_sem]
attribute [go_sem] blkNoRefs blkClosed blkFlat blkShds
end Go.VS

set_option linter.unusedSimpArgs false
set_option linter.unusedVariables false
open Go.Proofs
set_option maxRecDepth 20000
namespace Go.VS
theorem f139_at : gz.P.funcs[139]? = some Tryz.f139 := by
  have h : Tryz.prog.funcs[139]? = some Tryz.f139 := by kernel_rfl
  exact h
theorem f36_at : gz.P.funcs[36]? = some Tryz.f36 := by
  have h : Tryz.prog.funcs[36]? = some Tryz.f36 := by kernel_rfl
  exact h
theorem f34_at : gz.P.funcs[34]? = some Tryz.f34 := by
  have h : Tryz.prog.funcs[34]? = some Tryz.f34 := by kernel_rfl
  exact h
theorem f35_at : gz.P.funcs[35]? = some Tryz.f35 := by
  have h : Tryz.prog.funcs[35]? = some Tryz.f35 := by kernel_rfl
  exact h
theorem f32_at : gz.P.funcs[32]? = some Tryz.f32 := by
  have h : Tryz.prog.funcs[32]? = some Tryz.f32 := by kernel_rfl
  exact h
theorem f96_at : gz.P.funcs[96]? = some Tryz.f96 := by
  have h : Tryz.prog.funcs[96]? = some Tryz.f96 := by kernel_rfl
  exact h
theorem f33_at : gz.P.funcs[33]? = some Tryz.f33 := by
  have h : Tryz.prog.funcs[33]? = some Tryz.f33 := by kernel_rfl
  exact h
theorem f9_at : gz.P.funcs[9]? = some Tryz.f9 := by
  have h : Tryz.prog.funcs[9]? = some Tryz.f9 := by kernel_rfl
  exact h
/-- what is left behind n -/
def szR (n : Nat) (left : Int) : Int := if (n : Int) ≤ left then left - n else -1
def szL {α : Type} (f : α → Nat) (xs : List α) : Nat := xs.length + (xs.map f).sum
def szN {α : Type} (f : α → Nat) (xs : List α) (i : Nat) : Nat := xs.length + ((xs.take i).map f).sum
theorem szN_zero {α : Type} (f : α → Nat) (xs : List α) : szN f xs 0 = xs.length := by simp [szN]
theorem szN_len {α : Type} (f : α → Nat) (xs : List α) : szN f xs xs.length = szL f xs := by simp [szN, szL]
theorem szN_succ {α : Type} [Inhabited α] (f : α → Nat) (xs : List α) {i : Nat} (h : i < xs.length) : szN f xs (i + 1) = szN f xs i + f (xs.getD i default) := by
  simp only [szN, take_succ_getD h, List.map_append, List.sum_append, List.map_cons, List.map_nil, List.sum_cons, List.sum_nil]
  omega
theorem szN_le {α : Type} (f : α → Nat) (xs : List α) (i : Nat) : szN f xs i ≤ szL f xs := by
  simp only [szN, szL]
  have : (xs.map f).sum = ((xs.take i).map f).sum + ((xs.drop i).map f).sum := by
    rw [← List.sum_append, ← List.map_append, List.take_append_drop]
  omega
theorem szR_lt {n : Nat} {left : Int} (h : left < n) : szR n left = -1 := if_neg (by omega)
theorem szR_le {n : Nat} {left : Int} (h : (n : Int) ≤ left) : szR n left = left - n := if_pos h
theorem szR_add {a b : Nat} {left : Int} (h : (a : Int) ≤ left) : szR b (left - a) = szR (a + b) left := by
  unfold szR
  split <;> split <;> omega
/-- the space that a law gives itself -/
def room (left : Int) : Prop := 0 ≤ left ∧ left ≤ 1048576
theorem ok139 (xs : List ByteArray) (left : Int) (hl : room left) : VCalls gz 139 [.lst false 1 (xs.map strA), .lit (.int .i64 left)] none (fun y _ => y = .lit (.int .i64 (szR (szL ByteArray.size xs) left))) := by
  obtain ⟨hl1, hl2⟩ := hl
  refine VCalls.go (nt := 28) (keep := [0, 1, 4, 5, 11, 15, 26]) (muts := []) (mvs := []) [] f139_at rfl (by kernel_rfl) rfl (by kernel_rfl) rfl (fun i h => by cases h) rfl ?_
  intro hok
  simp only [go_sem] at hok
  simp only [Tryz.f139, Func.code, Option.getD_some]
  simp only [go_sem]
  intro hm
  have hw : IntKind.i64.wrap (left - (xs.length : Int)) = left - (xs.length : Int) := wrap64 (by omega) (by omega)
  simp only [go_sem, hw]
  first | refine branch_ndec (fun h => ?_) (fun h => ?_) | refine branch_dec (fun h => ?_) (fun h => ?_) | refine branch_nbool (fun h => ?_) (fun h => ?_) | refine branch_split (fun h => ?_) (fun h => ?_)
  · simp only [go_sem]
    rw [szR_lt (by have := szN_le ByteArray.size xs 0; rw [szN_zero] at this; omega)]
  · simp only [go_sem]
    refine vm_loopK (α := Nat) (fun i => [(0, .lst false 1 (xs.map strA)), (1, .lit (.int .i64 (left - szN ByteArray.size xs i))), (4, .lit (.int .i64 0)), (5, .lit (.int .i64 i))]) (fun i => i ≤ xs.length ∧ (szN ByteArray.size xs i : Int) ≤ left) (fun i => xs.length - i) 0 ?_ ⟨by omega, by rw [szN_zero]; omega⟩ (by kernel_rfl) (fun _ => rfl) ?_
    · simp only [go_sem, szN_zero]
      try trivial
    · rintro i ⟨hi, hs⟩ hk
      simp only [go_sem]
      intro _
      first | refine branch_ndec (fun h2 => ?_) (fun h2 => ?_) | refine branch_dec (fun h2 => ?_) (fun h2 => ?_) | refine branch_nbool (fun h2 => ?_) (fun h2 => ?_) | refine branch_split (fun h2 => ?_) (fun h2 => ?_)
      · have hlt : i < xs.length := by omega
        have h0 : (0 : Int) ≤ (i : Int) := by omega
        have hn := szN_succ ByteArray.size xs hlt
        simp only [go_sem, h0, hlt]
        refine ⟨h2, fun hb => ?_⟩
        have hw2 : IntKind.i64.wrap (left - ↑(szN ByteArray.size xs i) - ((ByteArray.size (xs.getD i default) : Nat) : Int)) = left - (szN ByteArray.size xs (i + 1) : Nat) := by rw [wrap64 (by omega) (by omega)]; omega
        rw [hw2]
        first | refine branch_ndec (fun h3 => ?_) (fun h3 => ?_) | refine branch_dec (fun h3 => ?_) (fun h3 => ?_) | refine branch_nbool (fun h3 => ?_) (fun h3 => ?_) | refine branch_split (fun h3 => ?_) (fun h3 => ?_)
        · simp only [go_sem]
          rw [szR_lt (by have := szN_le ByteArray.size xs (i + 1); omega)]
        · have hw3 : IntKind.i64.wrap ((i : Int) + 1) = ((i + 1 : Nat) : Int) := by rw [wrap64 (by omega) (by omega)]; omega
          simp only [go_sem, hw3]
          refine again_intro (i + 1) ⟨by omega, by omega⟩ (by omega) ?_
          simp only [go_sem]
          try trivial
      · simp only [go_sem]
        have : i = xs.length := by omega
        subst this
        rw [szN_len] at hs ⊢
        rw [szR_le hs]
theorem ok36 (xs : List Int) (left : Int) (hl : room left) : VCalls gz 36 [.lst false 1 (xs.map intA), .lit (.int .i64 left)] none (fun y _ => y = .lit (.int .i64 (szR xs.length left))) := by
  obtain ⟨hl1, hl2⟩ := hl
  refine VCalls.go (nt := 12) (keep := [0, 1, 4, 10]) (muts := []) (mvs := []) [] f36_at rfl (by kernel_rfl) rfl (by kernel_rfl) rfl (fun i h => by cases h) rfl ?_
  intro hok
  simp only [go_sem] at hok
  simp only [Tryz.f36, Func.code, Option.getD_some]
  simp only [go_sem]
  intro hm
  have hw : IntKind.i64.wrap (left - (xs.length : Int)) = left - (xs.length : Int) := wrap64 (by omega) (by omega)
  simp only [go_sem, hw]
  first | refine branch_ndec (fun h => ?_) (fun h => ?_) | refine branch_dec (fun h => ?_) (fun h => ?_) | refine branch_nbool (fun h => ?_) (fun h => ?_) | refine branch_split (fun h => ?_) (fun h => ?_)
  · simp only [go_sem]
    rw [szR_lt (by omega)]
  · simp only [go_sem]
    rw [szR_le (by omega)]
theorem ok34 (xs : List Vot) (left : Int) (hl : room left) : VCalls gz 34 [.lst false 4 (xs.map Vot.enc), .lit (.int .i64 left)] none (fun y _ => y = .lit (.int .i64 (szR xs.length left))) := by
  obtain ⟨hl1, hl2⟩ := hl
  refine VCalls.go (nt := 12) (keep := [0, 1, 4, 10]) (muts := []) (mvs := []) [] f34_at rfl (by kernel_rfl) rfl (by kernel_rfl) rfl (fun i h => by cases h) rfl ?_
  intro hok
  simp only [go_sem] at hok
  simp only [Tryz.f34, Func.code, Option.getD_some]
  simp only [go_sem]
  intro hm
  have hw : IntKind.i64.wrap (left - (xs.length : Int)) = left - (xs.length : Int) := wrap64 (by omega) (by omega)
  simp only [go_sem, hw]
  first | refine branch_ndec (fun h => ?_) (fun h => ?_) | refine branch_dec (fun h => ?_) (fun h => ?_) | refine branch_nbool (fun h => ?_) (fun h => ?_) | refine branch_split (fun h => ?_) (fun h => ?_)
  · simp only [go_sem]
    rw [szR_lt (by omega)]
  · simp only [go_sem]
    rw [szR_le (by omega)]
theorem ok35 (xs : List Nws) (left : Int) (hl : room left) : VCalls gz 35 [.lst false 2 (xs.map Nws.enc), .lit (.int .i64 left)] none (fun y _ => y = .lit (.int .i64 (szR xs.length left))) := by
  obtain ⟨hl1, hl2⟩ := hl
  refine VCalls.go (nt := 12) (keep := [0, 1, 4, 10]) (muts := []) (mvs := []) [] f35_at rfl (by kernel_rfl) rfl (by kernel_rfl) rfl (fun i h => by cases h) rfl ?_
  intro hok
  simp only [go_sem] at hok
  simp only [Tryz.f35, Func.code, Option.getD_some]
  simp only [go_sem]
  intro hm
  have hw : IntKind.i64.wrap (left - (xs.length : Int)) = left - (xs.length : Int) := wrap64 (by omega) (by omega)
  simp only [go_sem, hw]
  first | refine branch_ndec (fun h => ?_) (fun h => ?_) | refine branch_dec (fun h => ?_) (fun h => ?_) | refine branch_nbool (fun h => ?_) (fun h => ?_) | refine branch_split (fun h => ?_) (fun h => ?_)
  · simp only [go_sem]
    rw [szR_lt (by omega)]
  · simp only [go_sem]
    rw [szR_le (by omega)]
def Prf.sz (p : Prf) : Nat := p.bys.length + p.tags.length
theorem ok32 (p : Prf) (left : Int) (hl : room left) : VCalls gz 32 [p.enc false, .lit (.int .i64 left)] none (fun y _ => y = .lit (.int .i64 (szR p.sz left))) := by
  obtain ⟨hl1, hl2⟩ := hl
  have hz : p.sz = p.bys.length + p.tags.length := rfl
  refine VCalls.go (nt := 18) (keep := [0, 1, 2, 4, 10, 16]) (muts := []) (mvs := []) [] f32_at rfl (by kernel_rfl) rfl (by kernel_rfl) rfl (fun i h => by cases h) rfl ?_
  intro hok
  simp only [go_sem] at hok
  simp only [Tryz.f32, Func.code, Option.getD_some]
  simp only [go_sem]
  obtain ⟨A1, g1⟩ : ∃ A, A = p.bys.length := ⟨_, rfl⟩
  refine call_lend ?_
  simp only [go_sem]
  refine callN.eq (ok36 p.bys left ⟨hl1, hl2⟩) (by simp only [go_sem]) ?_
  simp only [go_sem]
  rw [← g1]
  by_cases h1 : (A1 : Int) ≤ left
  rotate_left
  · rw [show szR A1 left = -1 from szR_lt (by omega)]
    simp only [go_sem]
    rw [szR_lt (by omega)]
  rw [show szR A1 left = left - (A1 : Int) from szR_le h1]
  have n1 : ¬ (left - (A1 : Int) < 0) := by omega
  simp only [n1, decide_false]
  simp only [go_sem]
  refine call_lend ?_
  simp only [go_sem]
  refine callN.eq (ok36 p.tags _ ⟨by omega, by omega⟩) (by simp only [go_sem]) ?_
  simp only [go_sem]
  obtain ⟨A2, g2⟩ : ∃ A, A = A1 + p.tags.length := ⟨_, rfl⟩
  rw [szR_add h1, ← g2]
  by_cases h2 : (A2 : Int) ≤ left
  rotate_left
  · rw [show szR A2 left = -1 from szR_lt (by omega)]
    simp only [go_sem]
    rw [szR_lt (by omega)]
  rw [show szR A2 left = left - (A2 : Int) from szR_le h2]
  have n2 : ¬ (left - (A2 : Int) < 0) := by omega
  simp only [n2, decide_false]
  simp only [go_sem]
  rw [szR_le (by omega)]
  simp only [show p.sz = A2 by omega]
def Blk.sz (b : Blk) : Nat := b.proof.sz + szL ByteArray.size b.moves
theorem ok96 (b : Blk) (left : Int) (hl : room left) : VCalls gz 96 [b.enc false, .lit (.int .i64 left)] none (fun y _ => y = .lit (.int .i64 (szR b.sz left))) := by
  obtain ⟨hl1, hl2⟩ := hl
  have hz : b.sz = b.proof.sz + szL ByteArray.size b.moves := rfl
  refine VCalls.go (nt := 18) (keep := [0, 1, 2, 4, 10, 16]) (muts := []) (mvs := []) [] f96_at rfl (by kernel_rfl) rfl (by kernel_rfl) rfl (fun i h => by cases h) rfl ?_
  intro hok
  simp only [go_sem] at hok
  simp only [Tryz.f96, Func.code, Option.getD_some]
  simp only [go_sem]
  obtain ⟨A1, g1⟩ : ∃ A, A = b.proof.sz := ⟨_, rfl⟩
  refine call_lend ?_
  simp only [go_sem]
  refine callN.eq (ok32 b.proof left ⟨hl1, hl2⟩) (by simp only [go_sem]) ?_
  simp only [go_sem]
  rw [← g1]
  by_cases h1 : (A1 : Int) ≤ left
  rotate_left
  · rw [show szR A1 left = -1 from szR_lt (by omega)]
    simp only [go_sem]
    rw [szR_lt (by omega)]
  rw [show szR A1 left = left - (A1 : Int) from szR_le h1]
  have n1 : ¬ (left - (A1 : Int) < 0) := by omega
  simp only [n1, decide_false]
  simp only [go_sem]
  refine call_lend ?_
  simp only [go_sem]
  refine callN.eq (ok139 b.moves _ ⟨by omega, by omega⟩) (by simp only [go_sem]) ?_
  simp only [go_sem]
  obtain ⟨A2, g2⟩ : ∃ A, A = A1 + (szL ByteArray.size b.moves) := ⟨_, rfl⟩
  rw [szR_add h1, ← g2]
  by_cases h2 : (A2 : Int) ≤ left
  rotate_left
  · rw [show szR A2 left = -1 from szR_lt (by omega)]
    simp only [go_sem]
    rw [szR_lt (by omega)]
  rw [show szR A2 left = left - (A2 : Int) from szR_le h2]
  have n2 : ¬ (left - (A2 : Int) < 0) := by omega
  simp only [n2, decide_false]
  simp only [go_sem]
  rw [szR_le (by omega)]
  simp only [show b.sz = A2 by omega]
theorem ok33 (xs : List Blk) (left : Int) (hl : room left) : VCalls gz 33 [.lst false 8 (xs.map (Blk.enc false)), .lit (.int .i64 left)] none (fun y _ => y = .lit (.int .i64 (szR (szL Blk.sz xs) left))) := by
  obtain ⟨hl1, hl2⟩ := hl
  refine VCalls.go (nt := 27) (keep := [0, 1, 4, 5, 11, 15, 25]) (muts := []) (mvs := []) [] f33_at rfl (by kernel_rfl) rfl (by kernel_rfl) rfl (fun i h => by cases h) rfl ?_
  intro hok
  simp only [go_sem] at hok
  simp only [Tryz.f33, Func.code, Option.getD_some]
  simp only [go_sem]
  intro hm
  have hw : IntKind.i64.wrap (left - (xs.length : Int)) = left - (xs.length : Int) := wrap64 (by omega) (by omega)
  simp only [go_sem, hw]
  first | refine branch_ndec (fun h => ?_) (fun h => ?_) | refine branch_dec (fun h => ?_) (fun h => ?_) | refine branch_nbool (fun h => ?_) (fun h => ?_) | refine branch_split (fun h => ?_) (fun h => ?_)
  · simp only [go_sem]
    rw [szR_lt (by have := szN_le Blk.sz xs 0; rw [szN_zero] at this; omega)]
  · simp only [go_sem]
    refine vm_loopK (α := Nat) (fun i => [(0, .lst false 8 (xs.map (Blk.enc false))), (1, .lit (.int .i64 (left - szN Blk.sz xs i))), (4, .lit (.int .i64 0)), (5, .lit (.int .i64 i))]) (fun i => i ≤ xs.length ∧ (szN Blk.sz xs i : Int) ≤ left) (fun i => xs.length - i) 0 ?_ ⟨by omega, by rw [szN_zero]; omega⟩ (by kernel_rfl) (fun _ => rfl) ?_
    · simp only [go_sem, szN_zero]
      try trivial
    · rintro i ⟨hi, hs⟩ hk
      simp only [go_sem]
      intro _
      first | refine branch_ndec (fun h2 => ?_) (fun h2 => ?_) | refine branch_dec (fun h2 => ?_) (fun h2 => ?_) | refine branch_nbool (fun h2 => ?_) (fun h2 => ?_) | refine branch_split (fun h2 => ?_) (fun h2 => ?_)
      · have hlt : i < xs.length := by omega
        have h0 : (0 : Int) ≤ (i : Int) := by omega
        have hn := szN_succ Blk.sz xs hlt
        simp only [go_sem, h0, hlt]
        refine ⟨h2, ?_⟩
        refine call_lend ?_
        simp only [go_sem]
        refine callN.eq (ok96 (xs.getD i default) (left - szN Blk.sz xs i) ⟨by omega, by omega⟩) (by simp only [go_sem]) ?_
        simp only [go_sem]
        rw [szR_add hs, ← hn]
        by_cases h3 : (szN Blk.sz xs (i + 1) : Int) ≤ left
        · have e3 : szR (szN Blk.sz xs (i + 1)) left = left - (szN Blk.sz xs (i + 1) : Nat) := szR_le h3
          rw [e3]
          have h4 : ¬ (left - (szN Blk.sz xs (i + 1) : Int) < 0) := by omega
          have hw3 : IntKind.i64.wrap ((i : Int) + 1) = ((i + 1 : Nat) : Int) := by rw [wrap64 (by omega) (by omega)]; omega
          simp only [h4, decide_false]
          simp only [go_sem, hw3]
          refine again_intro (i + 1) ⟨by omega, by omega⟩ (by omega) ?_
          simp only [go_sem]
          try trivial
        · have e3 : szR (szN Blk.sz xs (i + 1)) left = -1 := szR_lt (by omega)
          rw [e3]
          simp only [go_sem]
          rw [szR_lt (by have := szN_le Blk.sz xs (i + 1); omega)]
      · simp only [go_sem]
        have : i = xs.length := by omega
        subst this
        rw [szN_len] at hs ⊢
        rw [szR_le hs]
def Rpl.sz (r : Rpl) : Nat := r.high.sz + szL Blk.sz r.blocks + r.votes.length + r.news.length + r.done.length
theorem ok9 (r : Rpl) (left : Int) (hl : room left) : VCalls gz 9 [r.enc false, .lit (.int .i64 left)] none (fun y _ => y = .lit (.int .i64 (szR r.sz left))) := by
  obtain ⟨hl1, hl2⟩ := hl
  have hz : r.sz = r.high.sz + szL Blk.sz r.blocks + r.votes.length + r.news.length + r.done.length := rfl
  refine VCalls.go (nt := 36) (keep := [0, 1, 2, 4, 10, 16, 22, 28, 34]) (muts := []) (mvs := []) [] f9_at rfl (by kernel_rfl) rfl (by kernel_rfl) rfl (fun i h => by cases h) rfl ?_
  intro hok
  simp only [go_sem] at hok
  simp only [Tryz.f9, Func.code, Option.getD_some]
  simp only [go_sem]
  obtain ⟨A1, g1⟩ : ∃ A, A = r.high.sz := ⟨_, rfl⟩
  refine call_lend ?_
  simp only [go_sem]
  refine callN.eq (ok32 r.high left ⟨hl1, hl2⟩) (by simp only [go_sem]) ?_
  simp only [go_sem]
  rw [← g1]
  by_cases h1 : (A1 : Int) ≤ left
  rotate_left
  · rw [show szR A1 left = -1 from szR_lt (by omega)]
    simp only [go_sem]
    rw [szR_lt (by omega)]
  rw [show szR A1 left = left - (A1 : Int) from szR_le h1]
  have n1 : ¬ (left - (A1 : Int) < 0) := by omega
  simp only [n1, decide_false]
  simp only [go_sem]
  refine call_lend ?_
  simp only [go_sem]
  refine callN.eq (ok33 r.blocks _ ⟨by omega, by omega⟩) (by simp only [go_sem]) ?_
  simp only [go_sem]
  obtain ⟨A2, g2⟩ : ∃ A, A = A1 + (szL Blk.sz r.blocks) := ⟨_, rfl⟩
  rw [szR_add h1, ← g2]
  by_cases h2 : (A2 : Int) ≤ left
  rotate_left
  · rw [show szR A2 left = -1 from szR_lt (by omega)]
    simp only [go_sem]
    rw [szR_lt (by omega)]
  rw [show szR A2 left = left - (A2 : Int) from szR_le h2]
  have n2 : ¬ (left - (A2 : Int) < 0) := by omega
  simp only [n2, decide_false]
  simp only [go_sem]
  refine call_lend ?_
  simp only [go_sem]
  refine callN.eq (ok34 r.votes _ ⟨by omega, by omega⟩) (by simp only [go_sem]) ?_
  simp only [go_sem]
  obtain ⟨A3, g3⟩ : ∃ A, A = A2 + r.votes.length := ⟨_, rfl⟩
  rw [szR_add h2, ← g3]
  by_cases h3 : (A3 : Int) ≤ left
  rotate_left
  · rw [show szR A3 left = -1 from szR_lt (by omega)]
    simp only [go_sem]
    rw [szR_lt (by omega)]
  rw [show szR A3 left = left - (A3 : Int) from szR_le h3]
  have n3 : ¬ (left - (A3 : Int) < 0) := by omega
  simp only [n3, decide_false]
  simp only [go_sem]
  refine call_lend ?_
  simp only [go_sem]
  refine callN.eq (ok35 r.news _ ⟨by omega, by omega⟩) (by simp only [go_sem]) ?_
  simp only [go_sem]
  obtain ⟨A4, g4⟩ : ∃ A, A = A3 + r.news.length := ⟨_, rfl⟩
  rw [szR_add h3, ← g4]
  by_cases h4 : (A4 : Int) ≤ left
  rotate_left
  · rw [show szR A4 left = -1 from szR_lt (by omega)]
    simp only [go_sem]
    rw [szR_lt (by omega)]
  rw [show szR A4 left = left - (A4 : Int) from szR_le h4]
  have n4 : ¬ (left - (A4 : Int) < 0) := by omega
  simp only [n4, decide_false]
  simp only [go_sem]
  refine call_lend ?_
  simp only [go_sem]
  refine callN.eq (ok36 r.done _ ⟨by omega, by omega⟩) (by simp only [go_sem]) ?_
  simp only [go_sem]
  obtain ⟨A5, g5⟩ : ∃ A, A = A4 + r.done.length := ⟨_, rfl⟩
  rw [szR_add h4, ← g5]
  by_cases h5 : (A5 : Int) ≤ left
  rotate_left
  · rw [show szR A5 left = -1 from szR_lt (by omega)]
    simp only [go_sem]
    rw [szR_lt (by omega)]
  rw [show szR A5 left = left - (A5 : Int) from szR_le h5]
  have n5 : ¬ (left - (A5 : Int) < 0) := by omega
  simp only [n5, decide_false]
  simp only [go_sem]
  rw [szR_le (by omega)]
  simp only [show r.sz = A5 by omega]
end Go.VS

set_option linter.unusedSimpArgs false
set_option linter.unusedVariables false
open Go.Proofs
set_option maxRecDepth 20000
namespace Go.VS
theorem f142_at : gz.P.funcs[142]? = some Tryz.f142 := by
  have h : Tryz.prog.funcs[142]? = some Tryz.f142 := by kernel_rfl
  exact h
theorem f50_at : gz.P.funcs[50]? = some Tryz.f50 := by
  have h : Tryz.prog.funcs[50]? = some Tryz.f50 := by kernel_rfl
  exact h
theorem f106_at : gz.P.funcs[106]? = some Tryz.f106 := by
  have h : Tryz.prog.funcs[106]? = some Tryz.f106 := by kernel_rfl
  exact h
theorem f48_at : gz.P.funcs[48]? = some Tryz.f48 := by
  have h : Tryz.prog.funcs[48]? = some Tryz.f48 := by kernel_rfl
  exact h
theorem f107_at : gz.P.funcs[107]? = some Tryz.f107 := by
  have h : Tryz.prog.funcs[107]? = some Tryz.f107 := by kernel_rfl
  exact h
theorem f49_at : gz.P.funcs[49]? = some Tryz.f49 := by
  have h : Tryz.prog.funcs[49]? = some Tryz.f49 := by kernel_rfl
  exact h
theorem f46_at : gz.P.funcs[46]? = some Tryz.f46 := by
  have h : Tryz.prog.funcs[46]? = some Tryz.f46 := by kernel_rfl
  exact h
theorem f105_at : gz.P.funcs[105]? = some Tryz.f105 := by
  have h : Tryz.prog.funcs[105]? = some Tryz.f105 := by kernel_rfl
  exact h
theorem ok142 (xs : List ByteArray) (hs : xs.length ≤ 1048576) : VCalls gz 142 [.lst false 1 (xs.map strA)] none (fun y _ => y = .lst true 1 (xs.map strA)) := by
  refine VCalls.go (nt := 22) (keep := [0, 2, 3, 4, 11]) (muts := []) (mvs := []) [] f142_at rfl (by kernel_rfl) rfl (by kernel_rfl) rfl (fun i h => by cases h) rfl ?_
  intro hok
  simp only [go_sem] at hok
  simp only [Tryz.f142, Func.code, Option.getD_some]
  simp only [go_sem]
  intro hm
  refine ⟨by omega, by omega, ⟨by omega, by omega⟩, ?_⟩
  refine vm_loopK (α := Nat) (fun i => [(0, .lst false 1 (xs.map strA)), (3, .lst true 1 ((midL xs (List.replicate xs.length default) i).map strA)), (4, .lit (.int .i64 i))]) (fun i => i ≤ xs.length) (fun i => xs.length - i) 0 ?_ (by omega) (by kernel_rfl) (fun _ => rfl) ?_
  · simp only [go_sem]
    refine ⟨?_, rfl⟩
    rw [midL_zero, List.map_replicate]
    rfl
  · intro i hi hk
    have hml : (midL xs (List.replicate xs.length default) i).length = xs.length := midL_length hi (by simp)
    simp only [go_sem]
    intro _
    first | refine branch_ndec (fun h2 => ?_) (fun h2 => ?_) | refine branch_dec (fun h2 => ?_) (fun h2 => ?_) | refine branch_nbool (fun h2 => ?_) (fun h2 => ?_) | refine branch_split (fun h2 => ?_) (fun h2 => ?_)
    · have hlt : i < xs.length := by omega
      have h0 : (0 : Int) ≤ (i : Int) := by omega
      have hset := midL_set xs (List.replicate xs.length default) hlt (by simp)
      have hw3 : IntKind.i64.wrap ((i : Int) + 1) = ((i + 1 : Nat) : Int) := by rw [wrap64 (by omega) (by omega)]; omega
      simp only [go_sem, h0, hlt, h2, hml, hw3, hset]
      refine again_intro (i + 1) (by omega) (by omega) ?_
      simp only [go_sem]
      all_goals first | trivial | exact (modify_enc (f := strA) (v := xs.getD i default) rfl).trans (by rw [hset])
    · simp only [go_sem]
      have : i = xs.length := by omega
      subst this
      rw [midL_all xs (by simp)]
theorem ok50 (xs : List Int) (hs : xs.length ≤ 1048576) : VCalls gz 50 [.lst false 1 (xs.map intA)] none (fun y _ => y = .lst true 1 (xs.map intA)) := by
  refine VCalls.go (nt := 22) (keep := [0, 2, 3, 4, 11]) (muts := []) (mvs := []) [] f50_at rfl (by kernel_rfl) rfl (by kernel_rfl) rfl (fun i h => by cases h) rfl ?_
  intro hok
  simp only [go_sem] at hok
  simp only [Tryz.f50, Func.code, Option.getD_some]
  simp only [go_sem]
  intro hm
  refine ⟨by omega, by omega, ⟨by omega, by omega⟩, ?_⟩
  refine vm_loopK (α := Nat) (fun i => [(0, .lst false 1 (xs.map intA)), (3, .lst true 1 ((midL xs (List.replicate xs.length default) i).map intA)), (4, .lit (.int .i64 i))]) (fun i => i ≤ xs.length) (fun i => xs.length - i) 0 ?_ (by omega) (by kernel_rfl) (fun _ => rfl) ?_
  · simp only [go_sem]
    refine ⟨?_, rfl⟩
    rw [midL_zero, List.map_replicate]
    rfl
  · intro i hi hk
    have hml : (midL xs (List.replicate xs.length default) i).length = xs.length := midL_length hi (by simp)
    simp only [go_sem]
    intro _
    first | refine branch_ndec (fun h2 => ?_) (fun h2 => ?_) | refine branch_dec (fun h2 => ?_) (fun h2 => ?_) | refine branch_nbool (fun h2 => ?_) (fun h2 => ?_) | refine branch_split (fun h2 => ?_) (fun h2 => ?_)
    · have hlt : i < xs.length := by omega
      have h0 : (0 : Int) ≤ (i : Int) := by omega
      have hset := midL_set xs (List.replicate xs.length default) hlt (by simp)
      have hw3 : IntKind.i64.wrap ((i : Int) + 1) = ((i + 1 : Nat) : Int) := by rw [wrap64 (by omega) (by omega)]; omega
      simp only [go_sem, h0, hlt, h2, hml, hw3, hset]
      refine again_intro (i + 1) (by omega) (by omega) ?_
      simp only [go_sem]
      all_goals first | trivial | exact (modify_enc (f := intA) (v := xs.getD i default) rfl).trans (by rw [hset])
    · simp only [go_sem]
      have : i = xs.length := by omega
      subst this
      rw [midL_all xs (by simp)]
theorem ok106 (v : Vot) : VCalls gz 106 [v.enc] none (fun y _ => y = v.enc) := by
  refine VCalls.go (nt := 17) (keep := [0, 1, 2, 3]) (muts := []) (mvs := []) [] f106_at rfl (by kernel_rfl) rfl (by kernel_rfl) rfl (fun i h => by cases h) rfl ?_
  intro hok
  simp only [go_sem] at hok
  simp only [Tryz.f106, Func.code, Option.getD_some]
  simp only [go_sem]
theorem ok48 (xs : List Vot) (hs : xs.length ≤ 1048576) : VCalls gz 48 [.lst false 4 (xs.map Vot.enc)] none (fun y _ => y = .lst true 4 (xs.map Vot.enc)) := by
  refine VCalls.go (nt := 23) (keep := [0, 2, 3, 4, 11]) (muts := []) (mvs := []) [] f48_at rfl (by kernel_rfl) rfl (by kernel_rfl) rfl (fun i h => by cases h) rfl ?_
  intro hok
  simp only [go_sem] at hok
  simp only [Tryz.f48, Func.code, Option.getD_some]
  simp only [go_sem]
  intro hm
  refine ⟨by omega, by omega, ⟨by omega, by omega⟩, ?_⟩
  refine vm_loopK (α := Nat) (fun i => [(0, .lst false 4 (xs.map Vot.enc)), (3, .lst true 4 ((midL xs (List.replicate xs.length default) i).map Vot.enc)), (4, .lit (.int .i64 i))]) (fun i => i ≤ xs.length) (fun i => xs.length - i) 0 ?_ (by omega) (by kernel_rfl) (fun _ => rfl) ?_
  · simp only [go_sem]
    refine ⟨?_, rfl⟩
    rw [midL_zero, List.map_replicate]
    rfl
  · intro i hi hk
    have hml : (midL xs (List.replicate xs.length default) i).length = xs.length := midL_length hi (by simp)
    simp only [go_sem]
    intro _
    first | refine branch_ndec (fun h2 => ?_) (fun h2 => ?_) | refine branch_dec (fun h2 => ?_) (fun h2 => ?_) | refine branch_nbool (fun h2 => ?_) (fun h2 => ?_) | refine branch_split (fun h2 => ?_) (fun h2 => ?_)
    · have hlt : i < xs.length := by omega
      have h0 : (0 : Int) ≤ (i : Int) := by omega
      have hset := midL_set xs (List.replicate xs.length default) hlt (by simp)
      have hw3 : IntKind.i64.wrap ((i : Int) + 1) = ((i + 1 : Nat) : Int) := by rw [wrap64 (by omega) (by omega)]; omega
      simp only [go_sem, h0, hlt, h2]
      refine call_lend ?_
      simp only [go_sem]
      refine callN.eq (ok106 (xs.getD i default)) (by simp only [go_sem]) ?_
      simp only [go_sem]
      simp only [go_sem, h0, hlt, h2, hml, hw3, hset]
      refine again_intro (i + 1) (by omega) (by omega) ?_
      simp only [go_sem]
      first | trivial | exact (modify_enc (f := Vot.enc) (v := xs.getD i default) rfl).trans (by rw [hset])
    · simp only [go_sem]
      have : i = xs.length := by omega
      subst this
      rw [midL_all xs (by simp)]
theorem ok107 (v : Nws) : VCalls gz 107 [v.enc] none (fun y _ => y = v.enc) := by
  refine VCalls.go (nt := 11) (keep := [0, 1, 2, 3]) (muts := []) (mvs := []) [] f107_at rfl (by kernel_rfl) rfl (by kernel_rfl) rfl (fun i h => by cases h) rfl ?_
  intro hok
  simp only [go_sem] at hok
  simp only [Tryz.f107, Func.code, Option.getD_some]
  simp only [go_sem]
theorem ok49 (xs : List Nws) (hs : xs.length ≤ 1048576) : VCalls gz 49 [.lst false 2 (xs.map Nws.enc)] none (fun y _ => y = .lst true 2 (xs.map Nws.enc)) := by
  refine VCalls.go (nt := 23) (keep := [0, 2, 3, 4, 11]) (muts := []) (mvs := []) [] f49_at rfl (by kernel_rfl) rfl (by kernel_rfl) rfl (fun i h => by cases h) rfl ?_
  intro hok
  simp only [go_sem] at hok
  simp only [Tryz.f49, Func.code, Option.getD_some]
  simp only [go_sem]
  intro hm
  refine ⟨by omega, by omega, ⟨by omega, by omega⟩, ?_⟩
  refine vm_loopK (α := Nat) (fun i => [(0, .lst false 2 (xs.map Nws.enc)), (3, .lst true 2 ((midL xs (List.replicate xs.length default) i).map Nws.enc)), (4, .lit (.int .i64 i))]) (fun i => i ≤ xs.length) (fun i => xs.length - i) 0 ?_ (by omega) (by kernel_rfl) (fun _ => rfl) ?_
  · simp only [go_sem]
    refine ⟨?_, rfl⟩
    rw [midL_zero, List.map_replicate]
    rfl
  · intro i hi hk
    have hml : (midL xs (List.replicate xs.length default) i).length = xs.length := midL_length hi (by simp)
    simp only [go_sem]
    intro _
    first | refine branch_ndec (fun h2 => ?_) (fun h2 => ?_) | refine branch_dec (fun h2 => ?_) (fun h2 => ?_) | refine branch_nbool (fun h2 => ?_) (fun h2 => ?_) | refine branch_split (fun h2 => ?_) (fun h2 => ?_)
    · have hlt : i < xs.length := by omega
      have h0 : (0 : Int) ≤ (i : Int) := by omega
      have hset := midL_set xs (List.replicate xs.length default) hlt (by simp)
      have hw3 : IntKind.i64.wrap ((i : Int) + 1) = ((i + 1 : Nat) : Int) := by rw [wrap64 (by omega) (by omega)]; omega
      simp only [go_sem, h0, hlt, h2]
      refine call_lend ?_
      simp only [go_sem]
      refine callN.eq (ok107 (xs.getD i default)) (by simp only [go_sem]) ?_
      simp only [go_sem]
      simp only [go_sem, h0, hlt, h2, hml, hw3, hset]
      refine again_intro (i + 1) (by omega) (by omega) ?_
      simp only [go_sem]
      first | trivial | exact (modify_enc (f := Nws.enc) (v := xs.getD i default) rfl).trans (by rw [hset])
    · simp only [go_sem]
      have : i = xs.length := by omega
      subst this
      rw [midL_all xs (by simp)]
theorem ok46 (p : Prf) (hp : p.sz ≤ 1048576) : VCalls gz 46 [p.enc false] none (fun y _ => y = p.enc true) := by
  have hp2 : p.bys.length + p.tags.length ≤ 1048576 := hp
  refine VCalls.go (nt := 19) (keep := [0, 1, 2, 3]) (muts := []) (mvs := [6]) [] f46_at rfl (by kernel_rfl) rfl (by kernel_rfl) rfl (fun i h => by cases h) rfl ?_
  intro hok
  simp only [go_sem] at hok
  simp only [Tryz.f46, Func.code, Option.getD_some]
  simp only [go_sem]
  refine call_lend ?_
  simp only [go_sem]
  refine callN.eq (ok50 p.bys (by omega)) (by simp only [go_sem]) ?_
  simp only [go_sem]
  refine call_lend ?_
  simp only [go_sem]
  refine callN.eq (ok50 p.tags (by omega)) (by simp only [go_sem]) ?_
  simp only [go_sem]
theorem ok105 (b : Blk) (hb : b.sz ≤ 1048576) : VCalls gz 105 [b.enc false] none (fun y _ => y = b.enc true) := by
  have hb2 : b.proof.sz + szL ByteArray.size b.moves ≤ 1048576 := hb
  simp only [szL] at hb2
  refine VCalls.go (nt := 22) (keep := [0, 1, 2, 3]) (muts := []) (mvs := [4,7]) [] f105_at rfl (by kernel_rfl) rfl (by kernel_rfl) rfl (fun i h => by cases h) rfl ?_
  intro hok
  simp only [go_sem] at hok
  simp only [Tryz.f105, Func.code, Option.getD_some]
  simp only [go_sem]
  refine call_lend ?_
  simp only [go_sem]
  refine callN.eq (ok46 b.proof (by omega)) (by simp only [go_sem]) ?_
  simp only [go_sem]
  refine call_lend ?_
  simp only [go_sem]
  refine callN.eq (ok142 b.moves (by omega)) (by simp only [go_sem]) ?_
  simp only [go_sem]
end Go.VS

set_option linter.unusedSimpArgs false
set_option linter.unusedVariables false
open Go.Proofs
set_option maxRecDepth 20000
namespace Go.VS
theorem f47_at : gz.P.funcs[47]? = some Tryz.f47 := by
  have h : Tryz.prog.funcs[47]? = some Tryz.f47 := by kernel_rfl
  exact h
theorem f11_at : gz.P.funcs[11]? = some Tryz.f11 := by
  have h : Tryz.prog.funcs[11]? = some Tryz.f11 := by kernel_rfl
  exact h
theorem ok47 (xs : List Blk) (hs : xs.length ≤ 1048576) (hz : ∀ i, i < xs.length → Blk.sz (xs.getD i default) ≤ 1048576) : VCalls gz 47 [.lst false 8 (xs.map (Blk.enc false))] none (fun y _ => y = .lst true 8 (xs.map (Blk.enc true))) := by
  refine VCalls.go (nt := 23) (keep := [0, 2, 3, 4, 11]) (muts := []) (mvs := [5]) [] f47_at rfl (by kernel_rfl) rfl (by kernel_rfl) rfl (fun i h => by cases h) rfl ?_
  intro hok
  simp only [go_sem] at hok
  simp only [Tryz.f47, Func.code, Option.getD_some]
  simp only [go_sem]
  intro hm
  refine ⟨by omega, by omega, ⟨by omega, by omega⟩, ?_⟩
  refine vm_loopK (α := Nat) (fun i => [(0, .lst false 8 (xs.map (Blk.enc false))), (3, .lst true 8 ((midL xs (List.replicate xs.length default) i).map (Blk.enc true))), (4, .lit (.int .i64 i))]) (fun i => i ≤ xs.length) (fun i => xs.length - i) 0 ?_ (by omega) (by kernel_rfl) (fun _ => rfl) ?_
  · simp only [go_sem]
    refine ⟨?_, rfl⟩
    rw [midL_zero, List.map_replicate]
    rfl
  · intro i hi hk
    have hml : (midL xs (List.replicate xs.length default) i).length = xs.length := midL_length hi (by simp)
    simp only [go_sem]
    intro _
    first | refine branch_ndec (fun h2 => ?_) (fun h2 => ?_) | refine branch_dec (fun h2 => ?_) (fun h2 => ?_) | refine branch_nbool (fun h2 => ?_) (fun h2 => ?_) | refine branch_split (fun h2 => ?_) (fun h2 => ?_)
    · have hlt : i < xs.length := by omega
      have h0 : (0 : Int) ≤ (i : Int) := by omega
      have hset := midL_set xs (List.replicate xs.length default) hlt (by simp)
      have hw3 : IntKind.i64.wrap ((i : Int) + 1) = ((i + 1 : Nat) : Int) := by rw [wrap64 (by omega) (by omega)]; omega
      simp only [go_sem, h0, hlt, h2]
      refine call_lend ?_
      simp only [go_sem]
      refine callN.eq (ok105 (xs.getD i default) (hz i hlt)) (by simp only [go_sem]) ?_
      simp only [go_sem]
      simp only [go_sem, h0, hlt, h2, hml, hw3, hset]
      refine again_intro (i + 1) (by omega) (by omega) ?_
      simp only [go_sem]
      first | trivial | exact (modify_enc (f := (Blk.enc true)) (v := xs.getD i default) rfl).trans (by rw [hset])
    · simp only [go_sem]
      have : i = xs.length := by omega
      subst this
      rw [midL_all xs (by simp)]
theorem getD_sz {α : Type} [Inhabited α] {f : α → Nat} {xs : List α} {i : Nat} (h : i < xs.length) : f (xs.getD i default) ≤ szL f xs := by
  have h1 := szN_succ f xs h
  have h2 := szN_le f xs (i + 1)
  omega
theorem ok11 (r : Rpl) (hr : r.sz ≤ 1048576) : VCalls gz 11 [r.enc false] none (fun y _ => y = r.enc true) := by
  have hr2 : r.high.sz + szL Blk.sz r.blocks + r.votes.length + r.news.length + r.done.length ≤ 1048576 := hr
  have hz : ∀ i, i < r.blocks.length → Blk.sz (r.blocks.getD i default) ≤ 1048576 := fun i hi => by
    have := getD_sz (f := Blk.sz) hi
    omega
  have hl : r.blocks.length ≤ 1048576 := by
    have : szL Blk.sz r.blocks = r.blocks.length + (r.blocks.map Blk.sz).sum := rfl
    omega
  refine VCalls.go (nt := 43) (keep := [0, 1, 2, 3]) (muts := []) (mvs := [13]) [] f11_at rfl (by kernel_rfl) rfl (by kernel_rfl) rfl (fun i h => by cases h) rfl ?_
  intro hok
  simp only [go_sem] at hok
  simp only [Tryz.f11, Func.code, Option.getD_some]
  simp only [go_sem]
  refine call_lend ?_
  simp only [go_sem]
  refine callN.eq (ok46 r.high (by omega)) (by simp only [go_sem]) ?_
  simp only [go_sem]
  refine call_lend ?_
  simp only [go_sem]
  refine callN.eq (ok47 r.blocks hl hz) (by simp only [go_sem]) ?_
  simp only [go_sem]
  refine call_lend ?_
  simp only [go_sem]
  refine callN.eq (ok48 r.votes (by omega)) (by simp only [go_sem]) ?_
  simp only [go_sem]
  refine call_lend ?_
  simp only [go_sem]
  refine callN.eq (ok49 r.news (by omega)) (by simp only [go_sem]) ?_
  simp only [go_sem]
  refine call_lend ?_
  simp only [go_sem]
  refine callN.eq (ok50 r.done (by omega)) (by simp only [go_sem]) ?_
  simp only [go_sem]
end Go.VS
