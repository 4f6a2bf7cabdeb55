/- VS: functions by the machine. -/
import Derived.Test.YtejhoajebbigbaaGreatDoorVg
import Derived.Test.YtejhoajebbigbaaGreatDoorVi
set_option linter.unusedSimpArgs false
set_option linter.unusedVariables false
open Go.Proofs
set_option maxRecDepth 20000
namespace Go.VS
theorem f80_at : gz.P.funcs[80]? = some Tryz.f80 := by
 have h : Tryz.prog.funcs[80]? = some Tryz.f80 := by kernel_rfl
 exact h
def Pty.bkR (p : Pty) (i : Nat) : Bool := (p.r.blocks.getD i default).ok p.r.n && (decide (p.fnd (p.names.getD i default) = (i : Int)) && p.knw (p.r.blocks.getD i default) i)
def Pty.bkOk (p : Pty) : Bool := decide (p.r.blocks.length <= 60) && (List.range p.r.blocks.length).all p.bkR
theorem Pty.bk_bad {p : Pty} {i : Nat} (hi : i < p.r.blocks.length) (h : p.bkR i = false) : p.bkOk = false := by
 have : (List.range p.r.blocks.length).all p.bkR = false := List.all_eq_false.2 ⟨i, List.mem_range.2 hi, by rw [h]; decide⟩
 rw [Pty.bkOk, this, Bool.and_false]
set_option maxHeartbeats 2000000 in
theorem ok80 (p : Pty) (hl : p.names.length = p.r.blocks.length) : VCalls gz 80 [.ptr false (p.enc false)] none (fun y _ => y = .lit (.bool p.bkOk)) := by
 refine VCalls.go (nt := 52) (keep := [0, 2, 3, 4, 11, 16, 17, 18, 19, 50]) (muts := []) (mvs := []) [(6, .tree false (.take 1 (.take 2 (.take 3 (.take 4 (.all (.cons 0 (.all (.cons 5 (.all (.cons 6 (.take 7 (.take 8 (.take 9 (.take 10 (.take 11 (.take 12 (.take 14 (.take 18 (.all (.cons 13 (.take 15 (.all (.cons 16 (.all (.cons 17 (.take 19 (.take 20 (.take 21 (.take 22 (.take 24 (.all (.cons 23 (.all (.cons 25 (.take 26 (.take 27 .done)) .nil)) .nil))))))) .nil)) .nil))) .nil)))))))))) .nil)) .nil)) (.cons 5 (.all (.cons 0 (.all (.cons 6 (.take 7 (.take 8 (.take 9 (.take 10 (.take 11 (.take 12 (.take 14 (.take 18 (.all (.cons 13 (.take 15 (.all (.cons 16 (.all (.cons 17 (.take 19 (.take 20 (.take 21 (.take 22 (.take 24 (.all (.cons 23 (.all (.cons 25 (.take 26 (.take 27 .done)) .nil)) .nil))))))) .nil)) .nil))) .nil)))))))))) .nil)) .nil)) .nil))))))))] f80_at rfl (by kernel_rfl) rfl (by kernel_rfl) rfl (fun i h => by cases h) rfl ?_
 intro hok
 simp only [go_sem] at hok
 simp only [Tryz.f80, Func.code, Option.getD_some]
 simp only [go_sem]
 intro hm
 first | refine branch_ndec (fun h1 => ?_) (fun h1 => ?_) | refine branch_dec (fun h1 => ?_) (fun h1 => ?_) | refine branch_nbool (fun h1 => ?_) (fun h1 => ?_) | refine branch_split (fun h1 => ?_) (fun h1 => ?_)
 ·have : p.bkOk = false := by rw [Pty.bkOk, decide_eq_false (show ¬ p.r.blocks.length <= 60 by omega), Bool.false_and]
  simp only [go_sem, this]
 simp only [go_sem]
 intro hm2
 refine vm_loopK (α := Nat) (fun i => [(0, .ptr false (p.enc false)), (2, .lit (.bool false)), (16, .lst false 8 (p.r.blocks.map (Blk.enc false))), (17, .lit (.int .i64 p.r.blocks.length)), (18, .lit (.int .i64 i))]) (fun i => i <= p.r.blocks.length /\ ∀ j, j < i -> p.bkR j = true) (fun i => p.r.blocks.length - i) 0 ?_ ⟨by omega, fun j hj => by omega⟩ (by kernel_rfl) (fun _ => rfl) ?_
 ·simp only [go_sem]
  try rfl
 ·rintro i ⟨hi, he⟩ hk
  simp only [go_sem]
  first | refine branch_ndec (fun h6 => ?_) (fun h6 => ?_) | refine branch_dec (fun h6 => ?_) (fun h6 => ?_) | refine branch_nbool (fun h6 => ?_) (fun h6 => ?_) | refine branch_split (fun h6 => ?_) (fun h6 => ?_)
  rotate_left
  ·have h60 : p.r.blocks.length <= 60 := by omega
   have : p.bkOk = true := by
    have e : (List.range p.r.blocks.length).all p.bkR = true := List.all_eq_true.2 fun x hx => he x (by have := List.mem_range.1 hx; omega)
    rw [Pty.bkOk, decide_eq_true h60, e]
    rfl
   simp only [go_sem, this]
  have hlt : i < p.r.blocks.length := by omega
  have hlt2 : i < p.names.length := by omega
  have h0 : (0 : Int) <= (i : Int) := by omega
  have h6b : (i : Int) < (p.names.length : Int) := by omega
  have hw3 : IntKind.i64.wrap ((i : Int) + 1) = ((i + 1 : Nat) : Int) := by rw [wrap64 (by omega) (by omega)]; omega
  simp only [go_sem, h0, hlt, h6]
  repeat' refine And.intro ?_ ?_
  all_goals
   refine call_lend ?_
   simp only [go_sem]
   refine callN.eq (ok109 (p.r.blocks.getD i default) p.r.n) (by simp only [go_sem]) ?_
   simp only [go_sem]
   cases hb : (p.r.blocks.getD i default).ok p.r.n
   ·have : p.bkOk = false := Pty.bk_bad hlt (by rw [Pty.bkR, hb, Bool.false_and])
    simp only [go_sem, this]
   simp only [go_sem, h0, hlt2, h6b]
   refine call_lend ?_
   simp only [go_sem]
   refine callN.eq (ok110 p (p.names.getD i default)) (by simp only [go_sem]) ?_
   simp only [go_sem]
   by_cases h7 : idxOf (isI (p.names.getD i default)) p.names = (i : Int)
   rotate_left
   ·have : p.bkOk = false := Pty.bk_bad hlt (by rw [Pty.bkR, Pty.fnd, decide_eq_false h7, Bool.false_and, Bool.and_false])
    simp only [go_sem, h7, this]
   simp only [go_sem, eq_true h7]
   refine call_lend ?_
   simp only [go_sem]
   refine callN.eq (ok111 p hl (p.r.blocks.getD i default) i) (by simp only [go_sem]) ?_
   simp only [go_sem]
   cases hkn : p.knw (p.r.blocks.getD i default) i
   ·have : p.bkOk = false := Pty.bk_bad hlt (by rw [Pty.bkR, hkn, Bool.and_false, Bool.and_false])
    simp only [go_sem, this]
   ·simp only [go_sem, hw3]
    refine again_intro (i + 1) ⟨by omega, nx he (by rw [Pty.bkR, hb, Pty.fnd, decide_eq_true h7, hkn]; rfl)⟩ (by omega) ?_
    simp only [go_sem]
    try rfl
end Go.VS
set_option linter.unusedSimpArgs false
set_option linter.unusedVariables false
open Go.Proofs
set_option maxRecDepth 20000
namespace Go.VS
theorem f67_at : gz.P.funcs[67]? = some Tryz.f67 := by
 have h : Tryz.prog.funcs[67]? = some Tryz.f67 := by kernel_rfl
 exact h
def lnkP (name parent view : Int) (b : Blk) : Bool := decide (b.nm = name) && (decide (b.parent = parent) && decide (b.proof.view = view))
def lastN {α : Type} [Inhabited α] (p : α -> Bool) (xs : List α) : Nat -> Int
 | 0 => -1
 | k + 1 => if p (xs.getD k default) = true then k else lastN p xs k
theorem lastN_rng {α : Type} [Inhabited α] (p : α -> Bool) (xs : List α) : ∀ k, -1 <= lastN p xs k /\ lastN p xs k < k
 | 0 => by simp [lastN]
 | k + 1 => by
  have := lastN_rng p xs k
  unfold lastN
  split <;> omega
def dnS (l : List Blk) (d : Int) : Option (Int × Int) -> Option (Int × Int)
 | none => none
 | some (pa, v) => if lastN (lnkP d pa v) l l.length < 0 then none else some (d, (l.getD (lastN (lnkP d pa v) l l.length).toNat default).view)
def dnN (l : List Blk) (ds : List Int) : Nat -> Option (Int × Int)
 | 0 => some (0, 0)
 | i + 1 => dnS l (ds.getD i default) (dnN l ds i)
theorem dnN_none {l : List Blk} {ds : List Int} {i : Nat} (h : dnN l ds i = none) : ∀ k, dnN l ds (i + k) = none
 | 0 => h
 | k + 1 => by rw [<- Nat.add_assoc, dnN, dnN_none h k]; rfl
def dnB (l : List Blk) (ds : List Int) : Bool := (dnN l ds ds.length).isSome
theorem dnB_no {l : List Blk} {ds : List Int} {i : Nat} (hi : i <= ds.length) (h : dnN l ds i = none) : dnB l ds = false := by
 have := dnN_none h (ds.length - i)
 rw [show i + (ds.length - i) = ds.length by omega] at this
 simp [dnB, this]
set_option maxHeartbeats 2000000 in
theorem ok67 (l : List Blk) (ds : List Int) : VCalls gz 67 [.lst false 8 (l.map (Blk.enc false)), .lst false 1 (ds.map intA)] none (fun y _ => y = .lit (.bool (dnB l ds))) := by
 refine VCalls.go (nt := 63) (keep := [0, 1, 4, 5, 6, 7, 8, 9, 13, 19, 50, 53]) (muts := []) (mvs := []) [(10, .tree true (.take 0 (.take 1 (.take 2 (.take 3 (.take 5 (.take 6 (.take 7 (.take 8 (.all (.cons 4 (.take 9 (.take 10 (.take 11 (.take 12 (.take 13 (.take 14 (.take 15 (.take 16 (.take 17 (.take 18 (.take 19 (.take 20 (.take 21 (.take 22 (.take 23 (.take 24 (.take 25 (.take 26 (.take 27 (.take 28 .done)))))))))))))))))))) .nil)))))))))))] f67_at rfl (by kernel_rfl) rfl (by kernel_rfl) rfl (fun i h => by cases h) rfl ?_
 intro hok
 simp only [go_sem] at hok
 simp only [Tryz.f67, Func.code, Option.getD_some]
 simp only [go_sem]
 refine vm_loopK (α := Nat × Int × Int) (fun q => [(0, .lst false 8 (l.map (Blk.enc false))), (1, .lst false 1 (ds.map intA)), (5, .lit (.int .i64 q.2.1)), (6, .lit (.int .i64 q.2.2)), (7, .lit (.int .i64 q.1))]) (fun q => q.1 <= ds.length /\ dnN l ds q.1 = some q.2) (fun q => ds.length - q.1) (0, 0, 0) ?_ ⟨by simp, rfl⟩ (by kernel_rfl) (fun _ => rfl) ?_
 ·simp only [go_sem]
  try rfl
 ·rintro ⟨i, pa, v⟩ ⟨hi, he⟩ hk
  simp only at hi he
  simp only [go_sem]
  intro _
  first | refine branch_ndec (fun h6 => ?_) (fun h6 => ?_) | refine branch_dec (fun h6 => ?_) (fun h6 => ?_) | refine branch_nbool (fun h6 => ?_) (fun h6 => ?_) | refine branch_split (fun h6 => ?_) (fun h6 => ?_)
  rotate_left
  ·have hie : i = ds.length := by omega
   have : dnB l ds = true := by rw [dnB, <- hie, he]; rfl
   simp only [go_sem, this]
  have hlt : i < ds.length := by omega
  have h0 : (0 : Int) <= (i : Int) := by omega
  have hw3 : IntKind.i64.wrap ((i : Int) + 1) = ((i + 1 : Nat) : Int) := by rw [wrap64 (by omega) (by omega)]; omega
  simp only [go_sem]
  obtain ⟨p, hp⟩ : ∃ p, p = lnkP (ds.getD i default) pa v := ⟨_, rfl⟩
  refine vm_loopK (α := Nat) (fun k => [(0, .lst false 8 (l.map (Blk.enc false))), (1, .lst false 1 (ds.map intA)), (5, .lit (.int .i64 pa)), (6, .lit (.int .i64 v)), (7, .lit (.int .i64 i)), (8, .lit (.int .i64 (lastN p l k))), (9, .lit (.int .i64 k))]) (fun k => k <= l.length) (fun k => l.length - k) 0 ?_ (by omega) (by kernel_rfl) (fun _ => rfl) ?_
  ·simp only [go_sem]
   exact ⟨rfl, rfl⟩
  ·intro k hk2 hkk
   simp only [go_sem]
   intro _
   first | refine branch_ndec (fun h8 => ?_) (fun h8 => ?_) | refine branch_dec (fun h8 => ?_) (fun h8 => ?_) | refine branch_nbool (fun h8 => ?_) (fun h8 => ?_) | refine branch_split (fun h8 => ?_) (fun h8 => ?_)
   ·have hlt2 : k < l.length := by omega
    have h02 : (0 : Int) <= (k : Int) := by omega
    have hw4 : IntKind.i64.wrap ((k : Int) + 1) = ((k + 1 : Nat) : Int) := by rw [wrap64 (by omega) (by omega)]; omega
    have hY : p (l.getD k default) = true -> lastN p l (k + 1) = k := fun h => by rw [lastN, if_pos h]
    have hN : p (l.getD k default) = false -> lastN p l (k + 1) = lastN p l k := fun h => by rw [lastN, h]; rfl
    simp only [go_sem, h02, hlt2, h8, h0, hlt, h6]
    repeat' refine And.intro ?_ ?_
    all_goals
     refine call_lend ?_
     simp only [go_sem]
     refine callN.eq (ok65 (l.getD k default)) (by simp only [go_sem]) ?_
     simp only [go_sem]
     by_cases h9 : (l.getD k default).nm = ds.getD i default
     rotate_left
     ·have e := hN (by rw [hp, lnkP, decide_eq_false h9, Bool.false_and])
      simp only [go_sem, h9, hw4, h0, hlt, h6]
      refine again_intro (k + 1) (by omega) (by omega) ?_
      simp only [go_sem, e]
      try rfl
     simp only [go_sem, eq_true h9, h02, hlt2, h8, h0, hlt, h6]
     by_cases h10 : (l.getD k default).parent = pa
     rotate_left
     ·have e := hN (by rw [hp, lnkP, decide_eq_false h10, Bool.false_and, Bool.and_false])
      simp only [go_sem, h10, hw4]
      refine again_intro (k + 1) (by omega) (by omega) ?_
      simp only [go_sem, e]
      try rfl
     simp only [go_sem, eq_true h10, h02, hlt2, h8]
     by_cases h11 : (l.getD k default).proof.view = v
     rotate_left
     ·have e := hN (by rw [hp, lnkP, decide_eq_false h11, Bool.and_false, Bool.and_false])
      simp only [go_sem, h11, hw4]
      refine again_intro (k + 1) (by omega) (by omega) ?_
      simp only [go_sem, e]
      try rfl
     have e := hY (by rw [hp, lnkP, decide_eq_true h9, decide_eq_true h10, decide_eq_true h11]; rfl)
     simp only [go_sem, eq_true h11, hw4]
     refine again_intro (k + 1) (by omega) (by omega) ?_
     simp only [go_sem, e]
     try rfl
   ·have hke : k = l.length := by omega
    subst hke
    have hst : dnN l ds (i + 1) = if lastN p l l.length < 0 then none else some (ds.getD i default, (l.getD (lastN p l l.length).toNat default).view) := by
     rw [dnN, he, hp]
     rfl
    have hrg := lastN_rng p l l.length
    by_cases h12 : lastN p l l.length < 0
    ·have := dnB_no (l := l) (ds := ds) (i := i + 1) (by omega) (by rw [hst, if_pos h12])
     simp only [go_sem, eq_true h12, this]
    ·rw [if_neg h12] at hst
     obtain ⟨f, hf⟩ := Int.eq_ofNat_of_zero_le (show 0 <= lastN p l l.length by omega)
     rw [hf] at hrg h12
     rw [hf, Int.toNat_natCast] at hst
     have h13 : (f : Int) < (l.length : Int) := by omega
     have h14 : (0 : Int) <= (f : Int) := by omega
     have h15 : f < l.length := by omega
     simp only [go_sem, hf, h12, h13, h14, h15, h0, hlt, h6, hw3]
     refine again_intro (i + 1, ds.getD i default, (l.getD f default).view) ⟨by show i + 1 <= ds.length; omega, hst⟩ (by show ds.length - (i + 1) < ds.length - i; omega) ?_
     simp only [go_sem]
     try rfl
end Go.VS
set_option linter.unusedSimpArgs false
set_option linter.unusedVariables false
open Go.Proofs
set_option maxRecDepth 20000
namespace Go.VS
theorem f24_at : gz.P.funcs[24]? = some Tryz.f24 := by
 have h : Tryz.prog.funcs[24]? = some Tryz.f24 := by kernel_rfl
 exact h
def nwOk (n : Int) (x : Nws) : Bool := decide (0 <= x.src /\ x.src <= n - 1) && decide (1 <= x.view /\ x.view <= 100000)
def Rpl.hd (r : Rpl) : Bool := srv r.n && (decide (0 <= r.id /\ r.id <= r.n - 1) && (decide (1 <= r.view /\ r.view <= 100000) && (decide (0 <= r.voted /\ r.voted <= 100000) && (decide (0 <= r.locked /\ r.locked <= 100000) && decide (0 <= r.proposed /\ r.proposed <= 100000)))))
def Rpl.hd2 (r : Rpl) : Bool := r.high.ok r.n && (decide (r.blocks.length <= 60) && (decide (r.votes.length <= 60) && decide (r.news.length <= 30)))
def Rpl.bk (r : Rpl) (i : Nat) : Bool := (r.blocks.getD i default).ok r.n && (knwB (r.blocks.take i) (r.blocks.getD i default).proof && (List.range i).all fun k => !decide ((r.blocks.getD k default).nm = (r.blocks.getD i default).nm))
def Rpl.ok (r : Rpl) : Bool := r.hd && (r.hd2 && ((List.range r.blocks.length).all r.bk && (r.votes.all (fun v => v.ok r.n) && (r.news.all (nwOk r.n) && (knwB r.blocks r.high && dnB r.blocks r.done)))))
theorem Rpl.ok_hd {r : Rpl} (h : r.hd = false) : r.ok = false := by simp only [Rpl.ok, h, Bool.false_and]
theorem Rpl.ok_hd2 {r : Rpl} (h : r.hd2 = false) : r.ok = false := by simp only [Rpl.ok, h, Bool.false_and, Bool.and_false]
theorem Rpl.ok_bk {r : Rpl} {i : Nat} (hi : i < r.blocks.length) (h : r.bk i = false) : r.ok = false := by
 have : (List.range r.blocks.length).all r.bk = false := List.all_eq_false.2 ⟨i, List.mem_range.2 hi, by simp [h]⟩
 simp only [Rpl.ok, this, Bool.false_and, Bool.and_false]
theorem Rpl.ok_vt {r : Rpl} {i : Nat} (hi : i < r.votes.length) (h : (r.votes.getD i default).ok r.n = false) : r.ok = false := by
 have : r.votes.all (fun v => v.ok r.n) = false := List.all_eq_false.2 ⟨_, getD_mem hi, by rw [h]; decide⟩
 simp only [Rpl.ok, this, Bool.false_and, Bool.and_false]
theorem Rpl.ok_nw {r : Rpl} {i : Nat} (hi : i < r.news.length) (h : nwOk r.n (r.news.getD i default) = false) : r.ok = false := by
 have : r.news.all (nwOk r.n) = false := List.all_eq_false.2 ⟨_, getD_mem hi, by rw [h]; decide⟩
 simp only [Rpl.ok, this, Bool.false_and, Bool.and_false]
set_option maxHeartbeats 4000000 in
theorem ok24 (r : Rpl) : VCalls gz 24 [r.enc false] none (fun y _ => y = .lit (.bool r.ok)) := by
 refine VCalls.go (nt := 166) (keep := [0, 1, 2, 3, 4, 5, 6, 7, 44, 68, 73, 95, 98, 109, 114, 125, 130, 153]) (muts := []) (mvs := []) [(9, .tree true (.take 0 (.take 1 (.take 2 (.all (.cons 3 (.take 4 (.take 5 (.take 6 (.take 7 (.take 8 (.take 10 (.take 11 (.all (.cons 9 (.all (.cons 12 (.take 13 (.take 14 .done)) .nil)) .nil))))))))) .nil)))))), (14, .tree true (.take 0 (.take 1 (.take 2 (.take 3 (.take 4 (.take 6 (.all (.cons 5 (.all (.cons 7 (.take 8 .done) .nil)) .nil))))))))), (19, .tree true (.take 0 (.take 1 (.take 2 (.take 3 (.take 4 (.take 5 (.take 6 (.all (.cons 7 (.take 8 .done) .nil)))))))))), (24, .tree true (.take 0 (.take 1 (.take 2 (.take 3 (.take 4 (.take 5 (.take 6 (.take 7 (.take 8 (.all (.cons 9 (.take 10 (.take 11 (.take 12 (.take 13 (.take 14 (.take 15 (.take 16 (.take 17 (.all (.cons 18 (.take 19 (.take 20 .done)) .nil)))))))))) .nil))))))))))))] f24_at rfl (by kernel_rfl) rfl (by kernel_rfl) rfl (fun i h => by cases h) rfl ?_
 intro hok
 simp only [go_sem] at hok
 simp only [Tryz.f24, Func.code, Option.getD_some]
 simp only [go_sem]
 refine call_lend ?_
 simp only [go_sem]
 refine callN.eq (ok59 r.n) (by simp only [go_sem]) ?_
 simp only [go_sem]
 cases h : srv r.n
 ·simp only [go_sem, Rpl.ok_hd (r := r) (by simp only [Rpl.hd, h, Bool.false_and])]
 have hn := srv_iff.1 h
 have hw : IntKind.i64.wrap (r.n - 1) = r.n - 1 := wrap64 (by omega) (by omega)
 simp only [go_sem, hw]
 refine call_lend ?_
 simp only [go_sem]
 refine callN.eq (ok60 r.id 0 (r.n - 1)) (by simp only [go_sem]) ?_
 simp only [go_sem]
 by_cases h2 : 0 <= r.id /\ r.id <= r.n - 1
 rotate_left
 ·simp only [go_sem, eq_false h2, Rpl.ok_hd (r := r) (by simp only [Rpl.hd, eq_false h2, decide_false, Bool.false_and, Bool.and_false])]
 simp only [go_sem, eq_true h2]
 refine call_lend ?_
 simp only [go_sem]
 refine callN.eq (ok60 r.view 1 100000) (by simp only [go_sem]) ?_
 simp only [go_sem]
 by_cases h3 : 1 <= r.view /\ r.view <= 100000
 rotate_left
 ·simp only [go_sem, eq_false h3, Rpl.ok_hd (r := r) (by simp only [Rpl.hd, eq_false h3, decide_false, Bool.false_and, Bool.and_false])]
 simp only [go_sem, eq_true h3]
 refine call_lend ?_
 simp only [go_sem]
 refine callN.eq (ok61 r.voted) (by simp only [go_sem]) ?_
 simp only [go_sem]
 by_cases h4 : 0 <= r.voted /\ r.voted <= 100000
 rotate_left
 ·simp only [go_sem, eq_false h4, Rpl.ok_hd (r := r) (by simp only [Rpl.hd, eq_false h4, decide_false, Bool.false_and, Bool.and_false])]
 simp only [go_sem, eq_true h4]
 refine call_lend ?_
 simp only [go_sem]
 refine callN.eq (ok61 r.locked) (by simp only [go_sem]) ?_
 simp only [go_sem]
 by_cases h5 : 0 <= r.locked /\ r.locked <= 100000
 rotate_left
 ·simp only [go_sem, eq_false h5, Rpl.ok_hd (r := r) (by simp only [Rpl.hd, eq_false h5, decide_false, Bool.false_and, Bool.and_false])]
 simp only [go_sem, eq_true h5]
 refine call_lend ?_
 simp only [go_sem]
 refine callN.eq (ok61 r.proposed) (by simp only [go_sem]) ?_
 simp only [go_sem]
 by_cases h6 : 0 <= r.proposed /\ r.proposed <= 100000
 rotate_left
 ·simp only [go_sem, eq_false h6, Rpl.ok_hd (r := r) (by simp only [Rpl.hd, eq_false h6, decide_false, Bool.false_and, Bool.and_false])]
 simp only [go_sem, eq_true h6]
 refine call_lend ?_
 simp only [go_sem]
 refine callN.eq (ok62 r.high r.n) (by simp only [go_sem]) ?_
 simp only [go_sem]
 cases h7 : r.high.ok r.n
 ·simp only [go_sem, Rpl.ok_hd2 (r := r) (by simp only [Rpl.hd2, h7, Bool.false_and])]
 simp only [go_sem]
 intro hm1
 by_cases h8 : 60 < (r.blocks.length : Int)
 ·simp only [go_sem, eq_true h8, Rpl.ok_hd2 (r := r) (by simp only [Rpl.hd2, decide_eq_false (show ¬ r.blocks.length <= 60 by omega), Bool.false_and, Bool.and_false])]
 simp only [go_sem, h8]
 intro hm2
 by_cases h9 : 60 < (r.votes.length : Int)
 ·simp only [go_sem, eq_true h9, Rpl.ok_hd2 (r := r) (by simp only [Rpl.hd2, decide_eq_false (show ¬ r.votes.length <= 60 by omega), Bool.false_and, Bool.and_false])]
 simp only [go_sem, h9]
 intro hm3
 by_cases h10 : 30 < (r.news.length : Int)
 ·simp only [go_sem, eq_true h10, Rpl.ok_hd2 (r := r) (by simp only [Rpl.hd2, decide_eq_false (show ¬ r.news.length <= 30 by omega), Bool.false_and, Bool.and_false])]
 simp only [go_sem, h10]
 have hhd : r.hd = true := by simp only [Rpl.hd, h, decide_eq_true h2, decide_eq_true h3, decide_eq_true h4, decide_eq_true h5, decide_eq_true h6, Bool.and_self]
 have hhd2 : r.hd2 = true := by simp only [Rpl.hd2, h7, decide_eq_true (show r.blocks.length <= 60 by omega), decide_eq_true (show r.votes.length <= 60 by omega), decide_eq_true (show r.news.length <= 30 by omega), Bool.and_self]
 refine vm_loopK (α := Nat) (fun i => [(1, .ptr true (r.enc false)), (2, .lit (.bool false)), (3, .lit (.int .i64 i))]) (fun i => i <= r.blocks.length /\ ∀ j, j < i -> r.bk j = true) (fun i => r.blocks.length - i) 0 ?_ ⟨by omega, fun j hj => by omega⟩ (by kernel_rfl) (fun _ => rfl) ?_
 ·simp only [go_sem]
  try rfl
 ·rintro i ⟨hi, he⟩ hk
  simp only [go_sem]
  intro _
  first | refine branch_ndec (fun h11 => ?_) (fun h11 => ?_) | refine branch_dec (fun h11 => ?_) (fun h11 => ?_) | refine branch_nbool (fun h11 => ?_) (fun h11 => ?_) | refine branch_split (fun h11 => ?_) (fun h11 => ?_)
  ·have hlt : i < r.blocks.length := by omega
   have h0 : (0 : Int) <= (i : Int) := by omega
   have hw3 : IntKind.i64.wrap ((i : Int) + 1) = ((i + 1 : Nat) : Int) := by rw [wrap64 (by omega) (by omega)]; omega
   simp only [go_sem, h0, hlt, h11]
   refine call_lend ?_
   simp only [go_sem]
   refine callN.eq (ok63 (r.blocks.getD i default) r.n) (by simp only [go_sem]) ?_
   simp only [go_sem]
   cases hb : (r.blocks.getD i default).ok r.n
   ·have : r.bk i = false := by simp only [Rpl.bk, hb, Bool.false_and]
    simp only [go_sem, Rpl.ok_bk hlt this]
   have h12 : (i : Int) <= (r.blocks.length : Int) := by omega
   have h13 : i <= r.blocks.length := hi
   simp only [go_sem, h0, h11, h12, h13, hlt, Nat.sub_zero]
   refine call_lend ?_
   simp only [go_sem]
   refine callN.eq (ok64 (r.blocks.take i) (r.blocks.getD i default).proof) (by simp only [go_sem]) ?_
   simp only [go_sem]
   cases hkn : knwB (r.blocks.take i) (r.blocks.getD i default).proof
   ·have : r.bk i = false := by simp only [Rpl.bk, hkn, Bool.false_and, Bool.and_false]
    simp only [go_sem, Rpl.ok_bk hlt this]
   simp only [go_sem]
   refine vm_loopK (α := Nat) (fun k => [(1, .ptr true (r.enc false)), (2, .lit (.bool false)), (3, .lit (.int .i64 i)), (4, .ptr true ((r.blocks.getD i default).enc false)), (5, .lit (.int .i64 k))]) (fun k => k <= i /\ ∀ j, j < k -> ¬ (r.blocks.getD j default).nm = (r.blocks.getD i default).nm) (fun k => i - k) 0 ?_ ⟨by omega, fun j hj => by omega⟩ (by kernel_rfl) (fun _ => rfl) ?_
   ·simp only [go_sem]
    try rfl
   ·rintro k ⟨hk2, he2⟩ hkk
    simp only [go_sem]
    first | refine branch_ndec (fun h14 => ?_) (fun h14 => ?_) | refine branch_dec (fun h14 => ?_) (fun h14 => ?_) | refine branch_nbool (fun h14 => ?_) (fun h14 => ?_) | refine branch_split (fun h14 => ?_) (fun h14 => ?_)
    ·have hlt2 : k < r.blocks.length := by omega
     have h02 : (0 : Int) <= (k : Int) := by omega
     have h15 : (k : Int) < (r.blocks.length : Int) := by omega
     have hw4 : IntKind.i64.wrap ((k : Int) + 1) = ((k + 1 : Nat) : Int) := by rw [wrap64 (by omega) (by omega)]; omega
     simp only [go_sem, h02, hlt2, h15]
     refine call_lend ?_
     simp only [go_sem]
     refine callN.eq (ok65 (r.blocks.getD k default)) (by simp only [go_sem]) ?_
     simp only [go_sem]
     refine call_lend ?_
     simp only [go_sem]
     refine callN.eq (ok65 (r.blocks.getD i default)) (by simp only [go_sem]) ?_
     simp only [go_sem]
     first | refine branch_ndec (fun h16 => ?_) (fun h16 => ?_) | refine branch_dec (fun h16 => ?_) (fun h16 => ?_) | refine branch_nbool (fun h16 => ?_) (fun h16 => ?_) | refine branch_split (fun h16 => ?_) (fun h16 => ?_)
     ·have : r.bk i = false := by
       have : ((List.range i).all fun k => !decide ((r.blocks.getD k default).nm = (r.blocks.getD i default).nm)) = false := List.all_eq_false.2 ⟨k, List.mem_range.2 (by omega), by rw [decide_eq_true h16]; decide⟩
       simp only [Rpl.bk, this, Bool.and_false]
      simp only [go_sem, Rpl.ok_bk hlt this]
     ·simp only [go_sem, hw4]
      refine again_intro (k + 1) ⟨by omega, nx he2 h16⟩ (by omega) ?_
      simp only [go_sem]
      try rfl
    ·have hbi : r.bk i = true := by
      have : ((List.range i).all fun k => !decide ((r.blocks.getD k default).nm = (r.blocks.getD i default).nm)) = true := List.all_eq_true.2 fun x hx => by
       rw [decide_eq_false (he2 x (by have := List.mem_range.1 hx; omega))]
       rfl
      simp only [Rpl.bk, hb, hkn, this, Bool.and_self]
     simp only [go_sem, hw3]
     refine again_intro (i + 1) ⟨by omega, nx he hbi⟩ (by omega) ?_
     simp only [go_sem]
     try rfl
  ·have hbk : (List.range r.blocks.length).all r.bk = true := List.all_eq_true.2 fun x hx => he x (by have := List.mem_range.1 hx; omega)
   simp only [go_sem]
   refine vm_loopK (α := Nat) (fun i => [(1, .ptr true (r.enc false)), (2, .lit (.bool false)), (6, .lit (.int .i64 i))]) (fun i => i <= r.votes.length /\ ∀ j, j < i -> (r.votes.getD j default).ok r.n = true) (fun i => r.votes.length - i) 0 ?_ ⟨by omega, fun j hj => by omega⟩ (by kernel_rfl) (fun _ => rfl) ?_
   ·simp only [go_sem]
    try rfl
   ·rintro k ⟨hk2, he2⟩ hkk
    simp only [go_sem]
    intro _
    first | refine branch_ndec (fun h14 => ?_) (fun h14 => ?_) | refine branch_dec (fun h14 => ?_) (fun h14 => ?_) | refine branch_nbool (fun h14 => ?_) (fun h14 => ?_) | refine branch_split (fun h14 => ?_) (fun h14 => ?_)
    ·have hlt2 : k < r.votes.length := by omega
     have h02 : (0 : Int) <= (k : Int) := by omega
     have hw4 : IntKind.i64.wrap ((k : Int) + 1) = ((k + 1 : Nat) : Int) := by rw [wrap64 (by omega) (by omega)]; omega
     simp only [go_sem, h02, hlt2, h14]
     refine call_lend ?_
     simp only [go_sem]
     refine callN.eq (ok66 (r.votes.getD k default) r.n) (by simp only [go_sem]) ?_
     simp only [go_sem]
     cases hv : (r.votes.getD k default).ok r.n
     ·simp only [go_sem, Rpl.ok_vt hlt2 hv]
     ·simp only [go_sem, hw4]
      refine again_intro (k + 1) ⟨by omega, nx he2 hv⟩ (by omega) ?_
      simp only [go_sem]
      try rfl
    ·have hvt : r.votes.all (fun v => v.ok r.n) = true := List.all_eq_true.2 fun x hx => by
      obtain ⟨j, hj, rfl⟩ := List.mem_iff_getElem.1 hx
      rw [getElem_D hj]
      exact he2 j (by omega)
     simp only [go_sem]
     refine vm_loopK (α := Nat) (fun i => [(1, .ptr true (r.enc false)), (2, .lit (.bool false)), (7, .lit (.int .i64 i))]) (fun i => i <= r.news.length /\ ∀ j, j < i -> nwOk r.n (r.news.getD j default) = true) (fun i => r.news.length - i) 0 ?_ ⟨by omega, fun j hj => by omega⟩ (by kernel_rfl) (fun _ => rfl) ?_
     ·simp only [go_sem]
      try rfl
     ·rintro m ⟨hm4, he3⟩ hkm
      simp only [go_sem]
      intro _
      first | refine branch_ndec (fun h15 => ?_) (fun h15 => ?_) | refine branch_dec (fun h15 => ?_) (fun h15 => ?_) | refine branch_nbool (fun h15 => ?_) (fun h15 => ?_) | refine branch_split (fun h15 => ?_) (fun h15 => ?_)
      ·have hlt3 : m < r.news.length := by omega
       have h03 : (0 : Int) <= (m : Int) := by omega
       have hw5 : IntKind.i64.wrap ((m : Int) + 1) = ((m + 1 : Nat) : Int) := by rw [wrap64 (by omega) (by omega)]; omega
       simp only [go_sem, h03, hlt3, h15, hw]
       refine call_lend ?_
       simp only [go_sem]
       refine callN.eq (ok60 (r.news.getD m default).src 0 (r.n - 1)) (by simp only [go_sem]) ?_
       simp only [go_sem]
       by_cases h16 : 0 <= (r.news.getD m default).src /\ (r.news.getD m default).src <= r.n - 1
       rotate_left
       ·simp only [go_sem, eq_false h16, Rpl.ok_nw hlt3 (by simp only [nwOk, eq_false h16, decide_false, Bool.false_and])]
       simp only [go_sem, eq_true h16, h03, hlt3, h15]
       refine call_lend ?_
       simp only [go_sem]
       refine callN.eq (ok60 (r.news.getD m default).view 1 100000) (by simp only [go_sem]) ?_
       simp only [go_sem]
       by_cases h17 : 1 <= (r.news.getD m default).view /\ (r.news.getD m default).view <= 100000
       rotate_left
       ·simp only [go_sem, eq_false h17, Rpl.ok_nw hlt3 (by simp only [nwOk, eq_false h17, decide_false, Bool.and_false])]
       simp only [go_sem, eq_true h17, hw5]
       refine again_intro (m + 1) ⟨by omega, nx he3 (by simp only [nwOk, decide_eq_true h16, decide_eq_true h17, Bool.and_self])⟩ (by omega) ?_
       simp only [go_sem]
       try rfl
      ·have hnw : r.news.all (nwOk r.n) = true := List.all_eq_true.2 fun x hx => by
        obtain ⟨j, hj, rfl⟩ := List.mem_iff_getElem.1 hx
        rw [getElem_D hj]
        exact he3 j (by omega)
       have hfin : r.ok = (knwB r.blocks r.high && dnB r.blocks r.done) := by simp only [Rpl.ok, hhd, hhd2, hbk, hvt, hnw, Bool.true_and]
       simp only [go_sem]
       refine call_lend ?_
       simp only [go_sem]
       refine callN.eq (ok64 r.blocks r.high) (by simp only [go_sem]) ?_
       simp only [go_sem]
       cases hkb : knwB r.blocks r.high
       ·simp only [go_sem, hfin, hkb, Bool.false_and]
       ·simp only [go_sem]
        refine call_lend ?_
        simp only [go_sem]
        refine callN.eq (ok67 r.blocks r.done) (by simp only [go_sem]) ?_
        simp only [go_sem]
        rw [hfin, hkb, Bool.true_and]
end Go.VS
