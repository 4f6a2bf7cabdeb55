/- VS: functions by the machine. -/
import Derived.Test.YtejhoajebbigbaaGreatDoorVf
set_option linter.unusedSimpArgs false
set_option linter.unusedVariables false
open Go.Proofs
set_option maxRecDepth 20000
namespace Go.VS
theorem f93_at : gz.P.funcs[93]? = some Tryz.f93 := by
 have h : Tryz.prog.funcs[93]? = some Tryz.f93 := by kernel_rfl
 exact h
theorem f42_at : gz.P.funcs[42]? = some Tryz.f42 := by
 have h : Tryz.prog.funcs[42]? = some Tryz.f42 := by kernel_rfl
 exact h
theorem f44_at : gz.P.funcs[44]? = some Tryz.f44 := by
 have h : Tryz.prog.funcs[44]? = some Tryz.f44 := by kernel_rfl
 exact h
theorem f40_at : gz.P.funcs[40]? = some Tryz.f40 := by
 have h : Tryz.prog.funcs[40]? = some Tryz.f40 := by kernel_rfl
 exact h
theorem f92_at : gz.P.funcs[92]? = some Tryz.f92 := by
 have h : Tryz.prog.funcs[92]? = some Tryz.f92 := by kernel_rfl
 exact h
theorem f41_at : gz.P.funcs[41]? = some Tryz.f41 := by
 have h : Tryz.prog.funcs[41]? = some Tryz.f41 := by kernel_rfl
 exact h
theorem f38_at : gz.P.funcs[38]? = some Tryz.f38 := by
 have h : Tryz.prog.funcs[38]? = some Tryz.f38 := by kernel_rfl
 exact h
theorem f43_at : gz.P.funcs[43]? = some Tryz.f43 := by
 have h : Tryz.prog.funcs[43]? = some Tryz.f43 := by kernel_rfl
 exact h
theorem f39_at : gz.P.funcs[39]? = some Tryz.f39 := by
 have h : Tryz.prog.funcs[39]? = some Tryz.f39 := by kernel_rfl
 exact h
theorem f10_at : gz.P.funcs[10]? = some Tryz.f10 := by
 have h : Tryz.prog.funcs[10]? = some Tryz.f10 := by kernel_rfl
 exact h
theorem ok93 (xs ys : List ByteArray) : VCalls gz 93 [.lst false 1 (xs.map strA), .lst false 1 (ys.map strA)] none (fun y _ => y = .lit (.bool (decide (xs = ys)))) := by
 refine VCalls.go (nt := 26) (keep := [0, 1, 4, 5, 10, 14, 25]) (muts := []) (mvs := []) [(6, .chain true [0, 1, 2, 3, 4, 5, 6, 7, 8])] f93_at rfl (by kernel_rfl) rfl (by kernel_rfl) rfl (fun i h => by cases h) rfl ?_
 intro hok
 simp only [go_sem] at hok
 simp only [Tryz.f93, Func.code, Option.getD_some]
 simp only [go_sem]
 intro hm hm2
 first | refine branch_ndec (fun h => ?_) (fun h => ?_) | refine branch_dec (fun h => ?_) (fun h => ?_) | refine branch_nbool (fun h => ?_) (fun h => ?_) | refine branch_split (fun h => ?_) (fun h => ?_)
 rotate_left
 ·simp only [go_sem]
  have : ¬ xs = ys := fun e => h (by rw [e])
  simp only [this, decide_false]
 ·have hll : xs.length = ys.length := by omega
  simp only [go_sem]
  refine vm_loopK (α := Nat) (fun i => [(0, .lst false 1 (xs.map strA)), (1, .lst false 1 (ys.map strA)), (4, .lit (.bool false)), (5, .lit (.int .i64 i))]) (fun i => i <= xs.length /\ ∀ j, j < i -> xs.getD j default = ys.getD j default) (fun i => xs.length - i) 0 ?_ ⟨by omega, fun j hj => by omega⟩ (by kernel_rfl) (fun _ => rfl) ?_
  ·simp only [go_sem]
   try trivial
  ·rintro i ⟨hi, he⟩ hk
   simp only [go_sem]
   intro _
   first | refine branch_ndec (fun h2 => ?_) (fun h2 => ?_) | refine branch_dec (fun h2 => ?_) (fun h2 => ?_) | refine branch_nbool (fun h2 => ?_) (fun h2 => ?_) | refine branch_split (fun h2 => ?_) (fun h2 => ?_)
   ·have hlt : i < xs.length := by omega
    have hlt2 : i < ys.length := by omega
    have h0 : (0 : Int) <= (i : Int) := by omega
    have h3 : (i : Int) < (ys.length : Int) := by omega
    have hw3 : IntKind.i64.wrap ((i : Int) + 1) = ((i + 1 : Nat) : Int) := by rw [wrap64 (by omega) (by omega)]; omega
    simp only [go_sem, h0, hlt, h2, hlt2, h3]
    first | refine branch_ndec (fun h4 => ?_) (fun h4 => ?_) | refine branch_dec (fun h4 => ?_) (fun h4 => ?_) | refine branch_nbool (fun h4 => ?_) (fun h4 => ?_) | refine branch_split (fun h4 => ?_) (fun h4 => ?_)
    rotate_left
    ·simp only [go_sem]
     have : ¬ xs = ys := fun e => h4 (by rw [e])
     simp only [this, decide_false]
    ·simp only [go_sem, hw3]
     refine again_intro (i + 1) ⟨by omega, fun j hj => ?_⟩ (by omega) ?_
     ·by_cases hji : j < i
      ·exact he j hji
      ·have : j = i := by omega
       subst this
       exact h4
     ·simp only [go_sem]
      try trivial
   ·simp only [go_sem]
    have : i = xs.length := by omega
    subst this
    have : xs = ys := ext_getD hll he
    simp only [this, decide_true]
theorem ok42 (xs ys : List Int) : VCalls gz 42 [.lst false 1 (xs.map intA), .lst false 1 (ys.map intA)] none (fun y _ => y = .lit (.bool (decide (xs = ys)))) := by
 refine VCalls.go (nt := 26) (keep := [0, 1, 4, 5, 10, 14, 25]) (muts := []) (mvs := []) [(6, .chain true [0, 1, 2, 3, 4, 5, 6, 7, 8])] f42_at rfl (by kernel_rfl) rfl (by kernel_rfl) rfl (fun i h => by cases h) rfl ?_
 intro hok
 simp only [go_sem] at hok
 simp only [Tryz.f42, Func.code, Option.getD_some]
 simp only [go_sem]
 intro hm hm2
 first | refine branch_ndec (fun h => ?_) (fun h => ?_) | refine branch_dec (fun h => ?_) (fun h => ?_) | refine branch_nbool (fun h => ?_) (fun h => ?_) | refine branch_split (fun h => ?_) (fun h => ?_)
 rotate_left
 ·simp only [go_sem]
  have : ¬ xs = ys := fun e => h (by rw [e])
  simp only [this, decide_false]
 ·have hll : xs.length = ys.length := by omega
  simp only [go_sem]
  refine vm_loopK (α := Nat) (fun i => [(0, .lst false 1 (xs.map intA)), (1, .lst false 1 (ys.map intA)), (4, .lit (.bool false)), (5, .lit (.int .i64 i))]) (fun i => i <= xs.length /\ ∀ j, j < i -> xs.getD j default = ys.getD j default) (fun i => xs.length - i) 0 ?_ ⟨by omega, fun j hj => by omega⟩ (by kernel_rfl) (fun _ => rfl) ?_
  ·simp only [go_sem]
   try trivial
  ·rintro i ⟨hi, he⟩ hk
   simp only [go_sem]
   intro _
   first | refine branch_ndec (fun h2 => ?_) (fun h2 => ?_) | refine branch_dec (fun h2 => ?_) (fun h2 => ?_) | refine branch_nbool (fun h2 => ?_) (fun h2 => ?_) | refine branch_split (fun h2 => ?_) (fun h2 => ?_)
   ·have hlt : i < xs.length := by omega
    have hlt2 : i < ys.length := by omega
    have h0 : (0 : Int) <= (i : Int) := by omega
    have h3 : (i : Int) < (ys.length : Int) := by omega
    have hw3 : IntKind.i64.wrap ((i : Int) + 1) = ((i + 1 : Nat) : Int) := by rw [wrap64 (by omega) (by omega)]; omega
    simp only [go_sem, h0, hlt, h2, hlt2, h3]
    first | refine branch_ndec (fun h4 => ?_) (fun h4 => ?_) | refine branch_dec (fun h4 => ?_) (fun h4 => ?_) | refine branch_nbool (fun h4 => ?_) (fun h4 => ?_) | refine branch_split (fun h4 => ?_) (fun h4 => ?_)
    rotate_left
    ·simp only [go_sem]
     have : ¬ xs = ys := fun e => h4 (by rw [e])
     simp only [this, decide_false]
    ·simp only [go_sem, hw3]
     refine again_intro (i + 1) ⟨by omega, fun j hj => ?_⟩ (by omega) ?_
     ·by_cases hji : j < i
      ·exact he j hji
      ·have : j = i := by omega
       subst this
       exact h4
     ·simp only [go_sem]
      try trivial
   ·simp only [go_sem]
    have : i = xs.length := by omega
    subst this
    have : xs = ys := ext_getD hll he
    simp only [this, decide_true]
theorem ok44 (p q : Vot) : VCalls gz 44 [p.enc, q.enc] none (fun y _ => y = .lit (.bool (decide (p = q)))) := by
 refine VCalls.go (nt := 25) (keep := [0, 1, 2, 3, 4, 9, 14, 19, 24]) (muts := []) (mvs := []) [] f44_at rfl (by kernel_rfl) rfl (by kernel_rfl) rfl (fun i h => by cases h) rfl ?_
 intro hok
 simp only [go_sem] at hok
 simp only [Tryz.f44, Func.code, Option.getD_some]
 simp only [go_sem]
 first | refine branch_ndec (fun h1 => ?_) (fun h1 => ?_) | refine branch_dec (fun h1 => ?_) (fun h1 => ?_) | refine branch_nbool (fun h1 => ?_) (fun h1 => ?_) | refine branch_split (fun h1 => ?_) (fun h1 => ?_)
 rotate_left
 ·have : ¬ p = q := fun e => h1 (by rw [e])
  simp only [go_sem, this]
 simp only [go_sem]
 first | refine branch_ndec (fun h2 => ?_) (fun h2 => ?_) | refine branch_dec (fun h2 => ?_) (fun h2 => ?_) | refine branch_nbool (fun h2 => ?_) (fun h2 => ?_) | refine branch_split (fun h2 => ?_) (fun h2 => ?_)
 rotate_left
 ·have : ¬ p = q := fun e => h2 (by rw [e])
  simp only [go_sem, this]
 simp only [go_sem]
 first | refine branch_ndec (fun h3 => ?_) (fun h3 => ?_) | refine branch_dec (fun h3 => ?_) (fun h3 => ?_) | refine branch_nbool (fun h3 => ?_) (fun h3 => ?_) | refine branch_split (fun h3 => ?_) (fun h3 => ?_)
 rotate_left
 ·have : ¬ p = q := fun e => h3 (by rw [e])
  simp only [go_sem, this]
 simp only [go_sem]
 first | refine branch_ndec (fun h4 => ?_) (fun h4 => ?_) | refine branch_dec (fun h4 => ?_) (fun h4 => ?_) | refine branch_nbool (fun h4 => ?_) (fun h4 => ?_) | refine branch_split (fun h4 => ?_) (fun h4 => ?_)
 rotate_left
 ·have : ¬ p = q := fun e => h4 (by rw [e])
  simp only [go_sem, this]
 simp only [go_sem]
 have : p = q := by cases p; cases q; simp_all
 simp only [go_sem, eq_true this]
theorem ok40 (xs ys : List Vot) : VCalls gz 40 [.lst false 4 (xs.map Vot.enc), .lst false 4 (ys.map Vot.enc)] none (fun y _ => y = .lit (.bool (decide (xs = ys)))) := by
 refine VCalls.go (nt := 27) (keep := [0, 1, 4, 5, 10, 14, 26]) (muts := []) (mvs := []) [(6, .tree true (.take 0 (.take 1 (.take 2 (.take 3 (.take 4 (.take 5 (.take 6 (.take 7 (.all (.cons 8 (.take 9 .done) .nil)))))))))))] f40_at rfl (by kernel_rfl) rfl (by kernel_rfl) rfl (fun i h => by cases h) rfl ?_
 intro hok
 simp only [go_sem] at hok
 simp only [Tryz.f40, Func.code, Option.getD_some]
 simp only [go_sem]
 intro hm hm2
 first | refine branch_ndec (fun h => ?_) (fun h => ?_) | refine branch_dec (fun h => ?_) (fun h => ?_) | refine branch_nbool (fun h => ?_) (fun h => ?_) | refine branch_split (fun h => ?_) (fun h => ?_)
 rotate_left
 ·simp only [go_sem]
  have : ¬ xs = ys := fun e => h (by rw [e])
  simp only [this, decide_false]
 ·have hll : xs.length = ys.length := by omega
  simp only [go_sem]
  refine vm_loopK (α := Nat) (fun i => [(0, .lst false 4 (xs.map Vot.enc)), (1, .lst false 4 (ys.map Vot.enc)), (4, .lit (.bool false)), (5, .lit (.int .i64 i))]) (fun i => i <= xs.length /\ ∀ j, j < i -> xs.getD j default = ys.getD j default) (fun i => xs.length - i) 0 ?_ ⟨by omega, fun j hj => by omega⟩ (by kernel_rfl) (fun _ => rfl) ?_
  ·simp only [go_sem]
   try trivial
  ·rintro i ⟨hi, he⟩ hk
   simp only [go_sem]
   intro _
   first | refine branch_ndec (fun h2 => ?_) (fun h2 => ?_) | refine branch_dec (fun h2 => ?_) (fun h2 => ?_) | refine branch_nbool (fun h2 => ?_) (fun h2 => ?_) | refine branch_split (fun h2 => ?_) (fun h2 => ?_)
   ·have hlt : i < xs.length := by omega
    have hlt2 : i < ys.length := by omega
    have h0 : (0 : Int) <= (i : Int) := by omega
    have h3 : (i : Int) < (ys.length : Int) := by omega
    have hw3 : IntKind.i64.wrap ((i : Int) + 1) = ((i + 1 : Nat) : Int) := by rw [wrap64 (by omega) (by omega)]; omega
    simp only [go_sem, h0, hlt, h2, hlt2, h3]
    repeat' refine And.intro ?_ ?_
    all_goals
     refine call_lend ?_
     simp only [go_sem]
     refine callN.eq (ok44 (xs.getD i default) (ys.getD i default)) (by simp only [go_sem]) ?_
     simp only [go_sem]
     by_cases h4 : xs.getD i default = ys.getD i default
     ·simp only [go_sem, hw3, h4]
      refine again_intro (i + 1) ⟨by omega, fun j hj => ?_⟩ (by omega) ?_
      ·by_cases hji : j < i
       ·exact he j hji
       ·have : j = i := by omega
        subst this
        exact h4
      ·simp only [go_sem]
       try trivial
     ·simp only [go_sem, h4]
      have : ¬ xs = ys := fun e => h4 (by rw [e])
      simp only [this, decide_false]
   ·simp only [go_sem]
    have : i = xs.length := by omega
    subst this
    have : xs = ys := ext_getD hll he
    simp only [this, decide_true]
theorem ok92 (p q : Nws) : VCalls gz 92 [p.enc, q.enc] none (fun y _ => y = .lit (.bool (decide (p = q)))) := by
 refine VCalls.go (nt := 15) (keep := [0, 1, 2, 3, 4, 9, 14]) (muts := []) (mvs := []) [] f92_at rfl (by kernel_rfl) rfl (by kernel_rfl) rfl (fun i h => by cases h) rfl ?_
 intro hok
 simp only [go_sem] at hok
 simp only [Tryz.f92, Func.code, Option.getD_some]
 simp only [go_sem]
 first | refine branch_ndec (fun h1 => ?_) (fun h1 => ?_) | refine branch_dec (fun h1 => ?_) (fun h1 => ?_) | refine branch_nbool (fun h1 => ?_) (fun h1 => ?_) | refine branch_split (fun h1 => ?_) (fun h1 => ?_)
 rotate_left
 ·have : ¬ p = q := fun e => h1 (by rw [e])
  simp only [go_sem, this]
 simp only [go_sem]
 first | refine branch_ndec (fun h2 => ?_) (fun h2 => ?_) | refine branch_dec (fun h2 => ?_) (fun h2 => ?_) | refine branch_nbool (fun h2 => ?_) (fun h2 => ?_) | refine branch_split (fun h2 => ?_) (fun h2 => ?_)
 rotate_left
 ·have : ¬ p = q := fun e => h2 (by rw [e])
  simp only [go_sem, this]
 simp only [go_sem]
 have : p = q := by cases p; cases q; simp_all
 simp only [go_sem, eq_true this]
theorem ok41 (xs ys : List Nws) : VCalls gz 41 [.lst false 2 (xs.map Nws.enc), .lst false 2 (ys.map Nws.enc)] none (fun y _ => y = .lit (.bool (decide (xs = ys)))) := by
 refine VCalls.go (nt := 27) (keep := [0, 1, 4, 5, 10, 14, 26]) (muts := []) (mvs := []) [(6, .tree true (.take 0 (.take 1 (.take 2 (.take 3 (.take 4 (.take 5 (.take 6 (.take 7 (.all (.cons 8 (.take 9 .done) .nil)))))))))))] f41_at rfl (by kernel_rfl) rfl (by kernel_rfl) rfl (fun i h => by cases h) rfl ?_
 intro hok
 simp only [go_sem] at hok
 simp only [Tryz.f41, Func.code, Option.getD_some]
 simp only [go_sem]
 intro hm hm2
 first | refine branch_ndec (fun h => ?_) (fun h => ?_) | refine branch_dec (fun h => ?_) (fun h => ?_) | refine branch_nbool (fun h => ?_) (fun h => ?_) | refine branch_split (fun h => ?_) (fun h => ?_)
 rotate_left
 ·simp only [go_sem]
  have : ¬ xs = ys := fun e => h (by rw [e])
  simp only [this, decide_false]
 ·have hll : xs.length = ys.length := by omega
  simp only [go_sem]
  refine vm_loopK (α := Nat) (fun i => [(0, .lst false 2 (xs.map Nws.enc)), (1, .lst false 2 (ys.map Nws.enc)), (4, .lit (.bool false)), (5, .lit (.int .i64 i))]) (fun i => i <= xs.length /\ ∀ j, j < i -> xs.getD j default = ys.getD j default) (fun i => xs.length - i) 0 ?_ ⟨by omega, fun j hj => by omega⟩ (by kernel_rfl) (fun _ => rfl) ?_
  ·simp only [go_sem]
   try trivial
  ·rintro i ⟨hi, he⟩ hk
   simp only [go_sem]
   intro _
   first | refine branch_ndec (fun h2 => ?_) (fun h2 => ?_) | refine branch_dec (fun h2 => ?_) (fun h2 => ?_) | refine branch_nbool (fun h2 => ?_) (fun h2 => ?_) | refine branch_split (fun h2 => ?_) (fun h2 => ?_)
   ·have hlt : i < xs.length := by omega
    have hlt2 : i < ys.length := by omega
    have h0 : (0 : Int) <= (i : Int) := by omega
    have h3 : (i : Int) < (ys.length : Int) := by omega
    have hw3 : IntKind.i64.wrap ((i : Int) + 1) = ((i + 1 : Nat) : Int) := by rw [wrap64 (by omega) (by omega)]; omega
    simp only [go_sem, h0, hlt, h2, hlt2, h3]
    repeat' refine And.intro ?_ ?_
    all_goals
     refine call_lend ?_
     simp only [go_sem]
     refine callN.eq (ok92 (xs.getD i default) (ys.getD i default)) (by simp only [go_sem]) ?_
     simp only [go_sem]
     by_cases h4 : xs.getD i default = ys.getD i default
     ·simp only [go_sem, hw3, h4]
      refine again_intro (i + 1) ⟨by omega, fun j hj => ?_⟩ (by omega) ?_
      ·by_cases hji : j < i
       ·exact he j hji
       ·have : j = i := by omega
        subst this
        exact h4
      ·simp only [go_sem]
       try trivial
     ·simp only [go_sem, h4]
      have : ¬ xs = ys := fun e => h4 (by rw [e])
      simp only [this, decide_false]
   ·simp only [go_sem]
    have : i = xs.length := by omega
    subst this
    have : xs = ys := ext_getD hll he
    simp only [this, decide_true]
theorem ok38 (p q : Prf) : VCalls gz 38 [p.enc false, q.enc false] none (fun y _ => y = .lit (.bool (decide (p = q)))) := by
 refine VCalls.go (nt := 27) (keep := [0, 1, 2, 3, 4, 9, 14, 20, 26]) (muts := []) (mvs := []) [] f38_at rfl (by kernel_rfl) rfl (by kernel_rfl) rfl (fun i h => by cases h) rfl ?_
 intro hok
 simp only [go_sem] at hok
 simp only [Tryz.f38, Func.code, Option.getD_some]
 simp only [go_sem]
 first | refine branch_ndec (fun h1 => ?_) (fun h1 => ?_) | refine branch_dec (fun h1 => ?_) (fun h1 => ?_) | refine branch_nbool (fun h1 => ?_) (fun h1 => ?_) | refine branch_split (fun h1 => ?_) (fun h1 => ?_)
 rotate_left
 ·have : ¬ p = q := fun e => h1 (by rw [e])
  simp only [go_sem, this]
 simp only [go_sem]
 first | refine branch_ndec (fun h2 => ?_) (fun h2 => ?_) | refine branch_dec (fun h2 => ?_) (fun h2 => ?_) | refine branch_nbool (fun h2 => ?_) (fun h2 => ?_) | refine branch_split (fun h2 => ?_) (fun h2 => ?_)
 rotate_left
 ·have : ¬ p = q := fun e => h2 (by rw [e])
  simp only [go_sem, this]
 simp only [go_sem]
 refine call_lend ?_
 simp only [go_sem]
 refine callN.eq (ok42 p.bys q.bys) (by simp only [go_sem]) ?_
 simp only [go_sem]
 by_cases h3 : p.bys = q.bys
 rotate_left
 ·have : ¬ p = q := fun e => h3 (by rw [e])
  simp only [go_sem, h3, this]
 simp only [go_sem, eq_true h3]
 refine call_lend ?_
 simp only [go_sem]
 refine callN.eq (ok42 p.tags q.tags) (by simp only [go_sem]) ?_
 simp only [go_sem]
 by_cases h4 : p.tags = q.tags
 rotate_left
 ·have : ¬ p = q := fun e => h4 (by rw [e])
  simp only [go_sem, h4, this]
 simp only [go_sem, eq_true h4]
 have : p = q := by cases p; cases q; simp_all
 simp only [go_sem, eq_true this]
theorem ok43 (p q : Blk) : VCalls gz 43 [p.enc false, q.enc false] none (fun y _ => y = .lit (.bool (decide (p = q)))) := by
 refine VCalls.go (nt := 32) (keep := [0, 1, 2, 3, 4, 9, 14, 20, 26, 31]) (muts := []) (mvs := []) [] f43_at rfl (by kernel_rfl) rfl (by kernel_rfl) rfl (fun i h => by cases h) rfl ?_
 intro hok
 simp only [go_sem] at hok
 simp only [Tryz.f43, Func.code, Option.getD_some]
 simp only [go_sem]
 first | refine branch_ndec (fun h1 => ?_) (fun h1 => ?_) | refine branch_dec (fun h1 => ?_) (fun h1 => ?_) | refine branch_nbool (fun h1 => ?_) (fun h1 => ?_) | refine branch_split (fun h1 => ?_) (fun h1 => ?_)
 rotate_left
 ·have : ¬ p = q := fun e => h1 (by rw [e])
  simp only [go_sem, this]
 simp only [go_sem]
 first | refine branch_ndec (fun h2 => ?_) (fun h2 => ?_) | refine branch_dec (fun h2 => ?_) (fun h2 => ?_) | refine branch_nbool (fun h2 => ?_) (fun h2 => ?_) | refine branch_split (fun h2 => ?_) (fun h2 => ?_)
 rotate_left
 ·have : ¬ p = q := fun e => h2 (by rw [e])
  simp only [go_sem, this]
 simp only [go_sem]
 refine call_lend ?_
 simp only [go_sem]
 refine callN.eq (ok38 p.proof q.proof) (by simp only [go_sem]) ?_
 simp only [go_sem]
 by_cases h3 : p.proof = q.proof
 rotate_left
 ·have : ¬ p = q := fun e => h3 (by rw [e])
  simp only [go_sem, h3, this]
 simp only [go_sem, eq_true h3]
 refine call_lend ?_
 simp only [go_sem]
 refine callN.eq (ok93 p.moves q.moves) (by simp only [go_sem]) ?_
 simp only [go_sem]
 by_cases h4 : p.moves = q.moves
 rotate_left
 ·have : ¬ p = q := fun e => h4 (by rw [e])
  simp only [go_sem, h4, this]
 simp only [go_sem, eq_true h4]
 first | refine branch_ndec (fun h5 => ?_) (fun h5 => ?_) | refine branch_dec (fun h5 => ?_) (fun h5 => ?_) | refine branch_nbool (fun h5 => ?_) (fun h5 => ?_) | refine branch_split (fun h5 => ?_) (fun h5 => ?_)
 rotate_left
 ·have : ¬ p = q := fun e => h5 (by rw [e])
  simp only [go_sem, this]
 simp only [go_sem]
 have : p = q := by cases p; cases q; simp_all
 simp only [go_sem, eq_true this]
theorem ok39 (xs ys : List Blk) : VCalls gz 39 [.lst false 8 (xs.map (Blk.enc false)), .lst false 8 (ys.map (Blk.enc false))] none (fun y _ => y = .lit (.bool (decide (xs = ys)))) := by
 refine VCalls.go (nt := 27) (keep := [0, 1, 4, 5, 10, 14, 26]) (muts := []) (mvs := []) [(6, .tree true (.take 0 (.take 1 (.take 2 (.take 3 (.take 4 (.take 5 (.take 6 (.take 7 (.all (.cons 8 (.take 9 .done) .nil)))))))))))] f39_at rfl (by kernel_rfl) rfl (by kernel_rfl) rfl (fun i h => by cases h) rfl ?_
 intro hok
 simp only [go_sem] at hok
 simp only [Tryz.f39, Func.code, Option.getD_some]
 simp only [go_sem]
 intro hm hm2
 first | refine branch_ndec (fun h => ?_) (fun h => ?_) | refine branch_dec (fun h => ?_) (fun h => ?_) | refine branch_nbool (fun h => ?_) (fun h => ?_) | refine branch_split (fun h => ?_) (fun h => ?_)
 rotate_left
 ·simp only [go_sem]
  have : ¬ xs = ys := fun e => h (by rw [e])
  simp only [this, decide_false]
 ·have hll : xs.length = ys.length := by omega
  simp only [go_sem]
  refine vm_loopK (α := Nat) (fun i => [(0, .lst false 8 (xs.map (Blk.enc false))), (1, .lst false 8 (ys.map (Blk.enc false))), (4, .lit (.bool false)), (5, .lit (.int .i64 i))]) (fun i => i <= xs.length /\ ∀ j, j < i -> xs.getD j default = ys.getD j default) (fun i => xs.length - i) 0 ?_ ⟨by omega, fun j hj => by omega⟩ (by kernel_rfl) (fun _ => rfl) ?_
  ·simp only [go_sem]
   try trivial
  ·rintro i ⟨hi, he⟩ hk
   simp only [go_sem]
   intro _
   first | refine branch_ndec (fun h2 => ?_) (fun h2 => ?_) | refine branch_dec (fun h2 => ?_) (fun h2 => ?_) | refine branch_nbool (fun h2 => ?_) (fun h2 => ?_) | refine branch_split (fun h2 => ?_) (fun h2 => ?_)
   ·have hlt : i < xs.length := by omega
    have hlt2 : i < ys.length := by omega
    have h0 : (0 : Int) <= (i : Int) := by omega
    have h3 : (i : Int) < (ys.length : Int) := by omega
    have hw3 : IntKind.i64.wrap ((i : Int) + 1) = ((i + 1 : Nat) : Int) := by rw [wrap64 (by omega) (by omega)]; omega
    simp only [go_sem, h0, hlt, h2, hlt2, h3]
    repeat' refine And.intro ?_ ?_
    all_goals
     refine call_lend ?_
     simp only [go_sem]
     refine callN.eq (ok43 (xs.getD i default) (ys.getD i default)) (by simp only [go_sem]) ?_
     simp only [go_sem]
     by_cases h4 : xs.getD i default = ys.getD i default
     ·simp only [go_sem, hw3, h4]
      refine again_intro (i + 1) ⟨by omega, fun j hj => ?_⟩ (by omega) ?_
      ·by_cases hji : j < i
       ·exact he j hji
       ·have : j = i := by omega
        subst this
        exact h4
      ·simp only [go_sem]
       try trivial
     ·simp only [go_sem, h4]
      have : ¬ xs = ys := fun e => h4 (by rw [e])
      simp only [this, decide_false]
   ·simp only [go_sem]
    have : i = xs.length := by omega
    subst this
    have : xs = ys := ext_getD hll he
    simp only [this, decide_true]
theorem ok10 (p q : Rpl) : VCalls gz 10 [p.enc false, q.enc false] none (fun y _ => y = .lit (.bool (decide (p = q)))) := by
 refine VCalls.go (nt := 65) (keep := [0, 1, 2, 3, 4, 9, 14, 19, 24, 29, 34, 40, 46, 52, 58, 64]) (muts := []) (mvs := []) [] f10_at rfl (by kernel_rfl) rfl (by kernel_rfl) rfl (fun i h => by cases h) rfl ?_
 intro hok
 simp only [go_sem] at hok
 simp only [Tryz.f10, Func.code, Option.getD_some]
 simp only [go_sem]
 first | refine branch_ndec (fun h1 => ?_) (fun h1 => ?_) | refine branch_dec (fun h1 => ?_) (fun h1 => ?_) | refine branch_nbool (fun h1 => ?_) (fun h1 => ?_) | refine branch_split (fun h1 => ?_) (fun h1 => ?_)
 rotate_left
 ·have : ¬ p = q := fun e => h1 (by rw [e])
  simp only [go_sem, this]
 simp only [go_sem]
 first | refine branch_ndec (fun h2 => ?_) (fun h2 => ?_) | refine branch_dec (fun h2 => ?_) (fun h2 => ?_) | refine branch_nbool (fun h2 => ?_) (fun h2 => ?_) | refine branch_split (fun h2 => ?_) (fun h2 => ?_)
 rotate_left
 ·have : ¬ p = q := fun e => h2 (by rw [e])
  simp only [go_sem, this]
 simp only [go_sem]
 first | refine branch_ndec (fun h3 => ?_) (fun h3 => ?_) | refine branch_dec (fun h3 => ?_) (fun h3 => ?_) | refine branch_nbool (fun h3 => ?_) (fun h3 => ?_) | refine branch_split (fun h3 => ?_) (fun h3 => ?_)
 rotate_left
 ·have : ¬ p = q := fun e => h3 (by rw [e])
  simp only [go_sem, this]
 simp only [go_sem]
 first | refine branch_ndec (fun h4 => ?_) (fun h4 => ?_) | refine branch_dec (fun h4 => ?_) (fun h4 => ?_) | refine branch_nbool (fun h4 => ?_) (fun h4 => ?_) | refine branch_split (fun h4 => ?_) (fun h4 => ?_)
 rotate_left
 ·have : ¬ p = q := fun e => h4 (by rw [e])
  simp only [go_sem, this]
 simp only [go_sem]
 first | refine branch_ndec (fun h5 => ?_) (fun h5 => ?_) | refine branch_dec (fun h5 => ?_) (fun h5 => ?_) | refine branch_nbool (fun h5 => ?_) (fun h5 => ?_) | refine branch_split (fun h5 => ?_) (fun h5 => ?_)
 rotate_left
 ·have : ¬ p = q := fun e => h5 (by rw [e])
  simp only [go_sem, this]
 simp only [go_sem]
 first | refine branch_ndec (fun h6 => ?_) (fun h6 => ?_) | refine branch_dec (fun h6 => ?_) (fun h6 => ?_) | refine branch_nbool (fun h6 => ?_) (fun h6 => ?_) | refine branch_split (fun h6 => ?_) (fun h6 => ?_)
 rotate_left
 ·have : ¬ p = q := fun e => h6 (by rw [e])
  simp only [go_sem, this]
 simp only [go_sem]
 refine call_lend ?_
 simp only [go_sem]
 refine callN.eq (ok38 p.high q.high) (by simp only [go_sem]) ?_
 simp only [go_sem]
 by_cases h7 : p.high = q.high
 rotate_left
 ·have : ¬ p = q := fun e => h7 (by rw [e])
  simp only [go_sem, h7, this]
 simp only [go_sem, eq_true h7]
 refine call_lend ?_
 simp only [go_sem]
 refine callN.eq (ok39 p.blocks q.blocks) (by simp only [go_sem]) ?_
 simp only [go_sem]
 by_cases h8 : p.blocks = q.blocks
 rotate_left
 ·have : ¬ p = q := fun e => h8 (by rw [e])
  simp only [go_sem, h8, this]
 simp only [go_sem, eq_true h8]
 refine call_lend ?_
 simp only [go_sem]
 refine callN.eq (ok40 p.votes q.votes) (by simp only [go_sem]) ?_
 simp only [go_sem]
 by_cases h9 : p.votes = q.votes
 rotate_left
 ·have : ¬ p = q := fun e => h9 (by rw [e])
  simp only [go_sem, h9, this]
 simp only [go_sem, eq_true h9]
 refine call_lend ?_
 simp only [go_sem]
 refine callN.eq (ok41 p.news q.news) (by simp only [go_sem]) ?_
 simp only [go_sem]
 by_cases h10 : p.news = q.news
 rotate_left
 ·have : ¬ p = q := fun e => h10 (by rw [e])
  simp only [go_sem, h10, this]
 simp only [go_sem, eq_true h10]
 refine call_lend ?_
 simp only [go_sem]
 refine callN.eq (ok42 p.done q.done) (by simp only [go_sem]) ?_
 simp only [go_sem]
 by_cases h11 : p.done = q.done
 rotate_left
 ·have : ¬ p = q := fun e => h11 (by rw [e])
  simp only [go_sem, h11, this]
 simp only [go_sem, eq_true h11]
 have : p = q := by cases p; cases q; simp_all
 simp only [go_sem, eq_true this]
end Go.VS
set_option linter.unusedSimpArgs false
set_option linter.unusedVariables false
open Go.Proofs
set_option maxRecDepth 20000
namespace Go.VS
theorem f59_at : gz.P.funcs[59]? = some Tryz.f59 := by
 have h : Tryz.prog.funcs[59]? = some Tryz.f59 := by kernel_rfl
 exact h
theorem f61_at : gz.P.funcs[61]? = some Tryz.f61 := by
 have h : Tryz.prog.funcs[61]? = some Tryz.f61 := by kernel_rfl
 exact h
theorem f97_at : gz.P.funcs[97]? = some Tryz.f97 := by
 have h : Tryz.prog.funcs[97]? = some Tryz.f97 := by kernel_rfl
 exact h
theorem f76_at : gz.P.funcs[76]? = some Tryz.f76 := by
 have h : Tryz.prog.funcs[76]? = some Tryz.f76 := by kernel_rfl
 exact h
theorem f95_at : gz.P.funcs[95]? = some Tryz.f95 := by
 have h : Tryz.prog.funcs[95]? = some Tryz.f95 := by kernel_rfl
 exact h
theorem f81_at : gz.P.funcs[81]? = some Tryz.f81 := by
 have h : Tryz.prog.funcs[81]? = some Tryz.f81 := by kernel_rfl
 exact h
theorem f96_at : gz.P.funcs[96]? = some Tryz.f96 := by
 have h : Tryz.prog.funcs[96]? = some Tryz.f96 := by kernel_rfl
 exact h
theorem f78_at : gz.P.funcs[78]? = some Tryz.f78 := by
 have h : Tryz.prog.funcs[78]? = some Tryz.f78 := by kernel_rfl
 exact h
theorem f113_at : gz.P.funcs[113]? = some Tryz.f113 := by
 have h : Tryz.prog.funcs[113]? = some Tryz.f113 := by kernel_rfl
 exact h
theorem f152_at : gz.P.funcs[152]? = some Tryz.f152 := by
 have h : Tryz.prog.funcs[152]? = some Tryz.f152 := by kernel_rfl
 exact h
theorem f132_at : gz.P.funcs[132]? = some Tryz.f132 := by
 have h : Tryz.prog.funcs[132]? = some Tryz.f132 := by kernel_rfl
 exact h
theorem f115_at : gz.P.funcs[115]? = some Tryz.f115 := by
 have h : Tryz.prog.funcs[115]? = some Tryz.f115 := by kernel_rfl
 exact h
theorem f131_at : gz.P.funcs[131]? = some Tryz.f131 := by
 have h : Tryz.prog.funcs[131]? = some Tryz.f131 := by kernel_rfl
 exact h
theorem f136_at : gz.P.funcs[136]? = some Tryz.f136 := by
 have h : Tryz.prog.funcs[136]? = some Tryz.f136 := by kernel_rfl
 exact h
theorem f114_at : gz.P.funcs[114]? = some Tryz.f114 := by
 have h : Tryz.prog.funcs[114]? = some Tryz.f114 := by kernel_rfl
 exact h
theorem f103_at : gz.P.funcs[103]? = some Tryz.f103 := by
 have h : Tryz.prog.funcs[103]? = some Tryz.f103 := by kernel_rfl
 exact h
def srv (n : Int) : Bool := decide (n = 1 \/ n = 4 \/ n = 7)
theorem srv_iff {n : Int} : srv n = true ↔ n = 1 \/ n = 4 \/ n = 7 := by simp [srv]
def qrm (n : Int) : Int := if srv n = true then n - (n - 1).tdiv 3 else -1
theorem ok59 (n : Int) : VCalls gz 59 [.lit (.int .i64 n)] none (fun y _ => y = .lit (.bool (srv n))) := by
 refine VCalls.go (nt := 13) (keep := [0, 2]) (muts := []) (mvs := []) [] f59_at rfl (by kernel_rfl) rfl (by kernel_rfl) rfl (fun i h => by cases h) rfl ?_
 intro hok
 simp only [go_sem] at hok
 simp only [Tryz.f59, Func.code, Option.getD_some]
 simp only [go_sem]
 by_cases h1 : n = 1
 ·subst h1
  simp only [go_sem]
  try rfl
 ·by_cases h4 : n = 4
  ·subst h4
   simp only [go_sem]
   try rfl
  ·by_cases h7 : n = 7
   ·subst h7
    simp only [go_sem]
    try rfl
   ·have : srv n = false := by simp [srv, h1, h4, h7]
    simp only [go_sem, h1, h4, h7, this]
theorem ok61 (n : Int) : VCalls gz 61 [.lit (.int .i64 n)] none (fun y _ => y = .lit (.bool (decide (0 <= n /\ n <= 100000)))) := by
 refine VCalls.go (nt := 5) (keep := [0, 2]) (muts := []) (mvs := []) [] f61_at rfl (by kernel_rfl) rfl (by kernel_rfl) rfl (fun i h => by cases h) rfl ?_
 intro hok
 simp only [go_sem] at hok
 simp only [Tryz.f61, Func.code, Option.getD_some]
 simp only [go_sem]
 refine call_lend ?_
 simp only [go_sem]
 refine callN.eq (ok60 n 0 100000) (by simp only [go_sem]) ?_
 simp only [go_sem]
theorem ok96 (n : Int) : VCalls gz 96 [.lit (.int .i64 n)] none (fun y _ => y = .lit (.bool (decide (0 <= n /\ n <= 2147483646)))) := by
 refine VCalls.go (nt := 5) (keep := [0, 2]) (muts := []) (mvs := []) [] f96_at rfl (by kernel_rfl) rfl (by kernel_rfl) rfl (fun i h => by cases h) rfl ?_
 intro hok
 simp only [go_sem] at hok
 simp only [Tryz.f96, Func.code, Option.getD_some]
 simp only [go_sem]
 refine call_lend ?_
 simp only [go_sem]
 refine callN.eq (ok60 n 0 2147483646) (by simp only [go_sem]) ?_
 simp only [go_sem]
theorem ok78 (n : Int) : VCalls gz 78 [.lit (.int .i64 n)] none (fun y _ => y = .lit (.bool (decide (1 <= n /\ n <= 100000)))) := by
 refine VCalls.go (nt := 5) (keep := [0, 2]) (muts := []) (mvs := []) [] f78_at rfl (by kernel_rfl) rfl (by kernel_rfl) rfl (fun i h => by cases h) rfl ?_
 intro hok
 simp only [go_sem] at hok
 simp only [Tryz.f78, Func.code, Option.getD_some]
 simp only [go_sem]
 refine call_lend ?_
 simp only [go_sem]
 refine callN.eq (ok77 n 1 100000) (by simp only [go_sem]) ?_
 simp only [go_sem]
theorem ok113 (n : Int) : VCalls gz 113 [.lit (.int .i64 n)] none (fun y _ => y = .lit (.bool (decide (0 <= n /\ n <= 2147483646)))) := by
 refine VCalls.go (nt := 5) (keep := [0, 2]) (muts := []) (mvs := []) [] f113_at rfl (by kernel_rfl) rfl (by kernel_rfl) rfl (fun i h => by cases h) rfl ?_
 intro hok
 simp only [go_sem] at hok
 simp only [Tryz.f113, Func.code, Option.getD_some]
 simp only [go_sem]
 refine call_lend ?_
 simp only [go_sem]
 refine callN.eq (ok77 n 0 2147483646) (by simp only [go_sem]) ?_
 simp only [go_sem]
theorem ok152 (n : Int) : VCalls gz 152 [.lit (.int .i64 n)] none (fun y _ => y = .lit (.bool (decide (0 <= n /\ n <= 6)))) := by
 refine VCalls.go (nt := 5) (keep := [0, 2]) (muts := []) (mvs := []) [] f152_at rfl (by kernel_rfl) rfl (by kernel_rfl) rfl (fun i h => by cases h) rfl ?_
 intro hok
 simp only [go_sem] at hok
 simp only [Tryz.f152, Func.code, Option.getD_some]
 simp only [go_sem]
 refine call_lend ?_
 simp only [go_sem]
 refine callN.eq (ok77 n 0 6) (by simp only [go_sem]) ?_
 simp only [go_sem]
theorem ok97 (n : Int) : VCalls gz 97 [.lit (.int .i64 n)] none (fun y _ => y = .lit (.int .i64 (qrm n))) := by
 refine VCalls.go (nt := 11) (keep := [0, 2, 5]) (muts := []) (mvs := []) [] f97_at rfl (by kernel_rfl) rfl (by kernel_rfl) rfl (fun i h => by cases h) rfl ?_
 intro hok
 simp only [go_sem] at hok
 simp only [Tryz.f97, Func.code, Option.getD_some]
 simp only [go_sem]
 refine call_lend ?_
 simp only [go_sem]
 refine callN.eq (ok59 n) (by simp only [go_sem]) ?_
 simp only [go_sem]
 cases h : srv n
 ·simp only [go_sem]
  simp only [qrm, h, Bool.false_eq_true, if_false]
 ·simp only [go_sem]
  rcases srv_iff.1 h with rfl | rfl | rfl <;> rfl
theorem ok76 (n : Int) : VCalls gz 76 [.lit (.int .i64 n)] none (fun y _ => y = .lit (.int .i64 (qrm n))) := by
 refine VCalls.go (nt := 18) (keep := [0, 2, 12]) (muts := []) (mvs := []) [] f76_at rfl (by kernel_rfl) rfl (by kernel_rfl) rfl (fun i h => by cases h) rfl ?_
 intro hok
 simp only [go_sem] at hok
 simp only [Tryz.f76, Func.code, Option.getD_some]
 simp only [go_sem]
 by_cases h1 : n = 1
 ·subst h1
  simp only [go_sem]
  try rfl
 ·by_cases h4 : n = 4
  ·subst h4
   simp only [go_sem]
   try rfl
  ·by_cases h7 : n = 7
   ·subst h7
    simp only [go_sem]
    try rfl
   ·have : srv n = false := by simp [srv, h1, h4, h7]
    simp only [go_sem, h1, h4, h7]
    simp only [qrm, this, Bool.false_eq_true, if_false]
theorem wrap_sum0 {a b : Nat} (ha : a <= 9223372036854775807) (hb : b <= 9223372036854775807) : (IntKind.i64.wrap ((a : Int) + (b : Int)) = 0) = (a = 0 /\ b = 0) := by
 apply propext
 simp only [IntKind.wrap, IntKind.bits, IntKind.signed, IntKind.max]
 constructor
 ·intro h
  simp at h
  split at h <;> omega
 ·rintro ⟨rfl, rfl⟩
  rfl
def Prf.one (p : Prf) : Bool := decide (p.view = 0 /\ p.name = 0 /\ p.bys.length = 0 /\ p.tags.length = 0)
theorem ok95 (p : Prf) : VCalls gz 95 [p.enc false] none (fun y _ => y = .lit (.bool p.one)) := by
 refine VCalls.go (nt := 21) (keep := [0, 1, 2]) (muts := []) (mvs := []) [] f95_at rfl (by kernel_rfl) rfl (by kernel_rfl) rfl (fun i h => by cases h) rfl ?_
 intro hok
 simp only [go_sem] at hok
 simp only [Tryz.f95, Func.code, Option.getD_some]
 simp only [go_sem]
 by_cases h1 : p.view = 0
 ·by_cases h2 : p.name = 0
  ·simp only [go_sem, h1, h2]
   have hs := wrap_sum0 (a := p.bys.length) (b := p.tags.length) hok.2.2.1.1 hok.2.2.2.1
   simp only [hs, Prf.one, h1, h2, true_and]
   exact fun _ _ => trivial
  ·have : p.one = false := by simp [Prf.one, h2]
   simp only [go_sem, h1, h2, this]
 ·have : p.one = false := by simp [Prf.one, h1]
  simp only [go_sem, h1, this]
theorem ok81 (p : Prf) : VCalls gz 81 [p.enc false] none (fun y _ => y = .lit (.bool p.one)) := by
 refine VCalls.go (nt := 23) (keep := [0, 1, 2]) (muts := []) (mvs := []) [] f81_at rfl (by kernel_rfl) rfl (by kernel_rfl) rfl (fun i h => by cases h) rfl ?_
 intro hok
 simp only [go_sem] at hok
 simp only [Tryz.f81, Func.code, Option.getD_some]
 simp only [go_sem]
 by_cases h1 : p.view = 0
 ·by_cases h2 : p.name = 0
  ·by_cases h3 : (p.bys.length : Int) = 0
   ·simp only [go_sem, h1, h2, h3]
    have h3' : p.bys.length = 0 := by omega
    have h4 : ((p.tags.length : Int) = 0) = (p.tags.length = 0) := by apply propext; omega
    simp only [Prf.one, h1, h2, h3', h4, true_and]
    exact fun _ _ => trivial
   ·have : p.one = false := by simp only [Prf.one, decide_eq_false_iff_not]; omega
    simp only [go_sem, h1, h2, h3, this]
  ·have : p.one = false := by simp [Prf.one, h2]
   simp only [go_sem, h1, h2, this]
 ·have : p.one = false := by simp [Prf.one, h1]
  simp only [go_sem, h1, this]
def balB (v m : Int) : ByteArray := ⟨#[118, 111, 116, 101, 32]⟩ ++ itoaB v ++ ⟨#[32]⟩ ++ itoaB m
def tagV (s : Int) (t : ByteArray) : Int := dig (⟨#[115, 101, 99, 114, 101, 116]⟩ ++ itoaB s ++ ⟨#[47]⟩ ++ t)
theorem digV_rng (t : ByteArray) : 0 <= dig t /\ dig t < 2147483647 := digN_rng t _
theorem tagV_rng (s : Int) (t : ByteArray) : 0 <= tagV s t /\ tagV s t < 2147483647 := digV_rng _
def rng (n : Int) : Prop := -9223372036854775808 <= n /\ n <= 9223372036854775807
theorem balB_size (v m : Int) (hv : rng v) (hm : rng m) : (balB v m).size <= 48 := by
 have h1 := itoaB_size v hv
 have h2 := itoaB_size m hm
 have h3 : (⟨#[32]⟩ : ByteArray).size = 1 := rfl
 have h4 : (⟨#[118, 111, 116, 101, 32]⟩ : ByteArray).size = 5 := rfl
 unfold balB
 simp only [ByteArray.size_append, h3, h4]
 omega
theorem ok132 (v m : Int) : VCalls gz 132 [.lit (.int .i64 v), .lit (.int .i64 m)] none (fun y _ => y = .lit (.string (balB v m))) := by
 refine VCalls.go (nt := 12) (keep := [0, 1, 4]) (muts := []) (mvs := []) [] f132_at rfl (by kernel_rfl) rfl (by kernel_rfl) rfl (fun i h => by cases h) rfl ?_
 intro hok
 simp only [go_sem] at hok
 simp only [Tryz.f132, Func.code, Option.getD_some]
 simp only [go_sem]
 have h1 := itoaB_size v hok.1
 have h2 := itoaB_size m hok.2
 have h3 : (#[32] : Array UInt8).size = 1 := rfl
 have h4 : (#[118, 111, 116, 101, 32] : Array UInt8).size = 5 := rfl
 refine call_lend ?_
 simp only [go_sem]
 refine callN.eq (ok150 v) (by simp only [go_sem]) ?_
 simp only [go_sem]
 refine ⟨by omega, by omega, ?_⟩
 refine call_lend ?_
 simp only [go_sem]
 refine callN.eq (ok150 m) (by simp only [go_sem]) ?_
 simp only [go_sem]
 refine ⟨by omega, rfl⟩
theorem ok115 (v m : Int) : VCalls gz 115 [.lit (.int .i64 v), .lit (.int .i64 m)] none (fun y _ => y = .lit (.string (balB v m))) := by
 refine VCalls.go (nt := 12) (keep := [0, 1, 4]) (muts := []) (mvs := []) [] f115_at rfl (by kernel_rfl) rfl (by kernel_rfl) rfl (fun i h => by cases h) rfl ?_
 intro hok
 simp only [go_sem] at hok
 simp only [Tryz.f115, Func.code, Option.getD_some]
 simp only [go_sem]
 have h1 := itoaB_size v hok.1
 have h2 := itoaB_size m hok.2
 have h3 : (#[32] : Array UInt8).size = 1 := rfl
 have h4 : (#[118, 111, 116, 101, 32] : Array UInt8).size = 5 := rfl
 refine call_lend ?_
 simp only [go_sem]
 refine callN.eq (ok137 v) (by simp only [go_sem]) ?_
 simp only [go_sem]
 refine ⟨by omega, by omega, ?_⟩
 refine call_lend ?_
 simp only [go_sem]
 refine callN.eq (ok137 m) (by simp only [go_sem]) ?_
 simp only [go_sem]
 refine ⟨by omega, rfl⟩
theorem ok131 (s : Int) (t : ByteArray) (ht : t.size <= 1000000) : VCalls gz 131 [.lit (.int .i64 s), .lit (.string t)] none (fun y _ => y = .lit (.int .i64 (tagV s t))) := by
 refine VCalls.go (nt := 12) (keep := [0, 1, 4]) (muts := []) (mvs := []) [] f131_at rfl (by kernel_rfl) rfl (by kernel_rfl) rfl (fun i h => by cases h) rfl ?_
 intro hok
 simp only [go_sem] at hok
 simp only [Tryz.f131, Func.code, Option.getD_some]
 simp only [go_sem]
 have h1 := itoaB_size s hok.1
 have h3 : (#[47] : Array UInt8).size = 1 := rfl
 have h4 : (#[115, 101, 99, 114, 101, 116] : Array UInt8).size = 6 := rfl
 refine call_lend ?_
 simp only [go_sem]
 refine callN.eq (ok150 s) (by simp only [go_sem]) ?_
 simp only [go_sem]
 refine ⟨by omega, by omega, by omega, ?_⟩
 refine call_lend ?_
 simp only [go_sem]
 refine callN.eq (ok101 (⟨#[115, 101, 99, 114, 101, 116]⟩ ++ itoaB s ++ ⟨#[47]⟩ ++ t)) (by simp only [go_sem]) ?_
 simp only [go_sem]
 try rfl
theorem ok136 (s : Int) (t : ByteArray) (ht : t.size <= 1000000) : VCalls gz 136 [.lit (.int .i64 s), .lit (.string t)] none (fun y _ => y = .lit (.int .i64 (if 0 <= s /\ s <= 6 then tagV s t else -1))) := by
 refine VCalls.go (nt := 15) (keep := [0, 1, 4, 7]) (muts := []) (mvs := []) [] f136_at rfl (by kernel_rfl) rfl (by kernel_rfl) rfl (fun i h => by cases h) rfl ?_
 intro hok
 simp only [go_sem] at hok
 simp only [Tryz.f136, Func.code, Option.getD_some]
 simp only [go_sem]
 have h1 := itoaB_size s hok.1
 have h3 : (#[47] : Array UInt8).size = 1 := rfl
 have h4 : (#[115, 101, 99, 114, 101, 116] : Array UInt8).size = 6 := rfl
 refine call_lend ?_
 simp only [go_sem]
 refine callN.eq (ok152 s) (by simp only [go_sem]) ?_
 simp only [go_sem]
 by_cases hs : 0 <= s /\ s <= 6
 ·simp only [eq_true hs, if_true]
  simp only [go_sem]
  refine call_lend ?_
  simp only [go_sem]
  refine callN.eq (ok137 s) (by simp only [go_sem]) ?_
  simp only [go_sem]
  refine ⟨by omega, by omega, by omega, ?_⟩
  refine call_lend ?_
  simp only [go_sem]
  refine callN.eq (ok124 (⟨#[115, 101, 99, 114, 101, 116]⟩ ++ itoaB s ++ ⟨#[47]⟩ ++ t)) (by simp only [go_sem]) ?_
  simp only [go_sem]
  try rfl
 ·simp only [hs, if_false]
  simp only [go_sem]
theorem ok114 (s : Int) (t : ByteArray) (g : Int) (hs : 0 <= s /\ s <= 6) (ht : t.size <= 1000000) : VCalls gz 114 [.lit (.int .i64 s), .lit (.string t), .lit (.int .i64 g)] none (fun y _ => y = .lit (.bool (decide (g = tagV s t)))) := by
 refine VCalls.go (nt := 16) (keep := [0, 1, 2, 6]) (muts := []) (mvs := []) [] f114_at rfl (by kernel_rfl) rfl (by kernel_rfl) rfl (fun i h => by cases h) rfl ?_
 intro hok
 simp only [go_sem] at hok
 simp only [Tryz.f114, Func.code, Option.getD_some]
 simp only [go_sem]
 have hr := tagV_rng s t
 by_cases h1 : g = -1
 ·have : ¬ g = tagV s t := by omega
  simp only [go_sem, eq_true h1, this]
 ·simp only [go_sem, h1]
  refine call_lend ?_
  simp only [go_sem]
  refine callN.eq (ok136 s t ht) (by simp only [go_sem]) ?_
  simp only [go_sem]
  simp only [go_sem, hs.1, hs.2]
theorem ok103 (s v m : Int) : VCalls gz 103 [.lit (.int .i64 s), .lit (.int .i64 v), .lit (.int .i64 m)] none (fun y _ => y = (Vot.mk v m s (tagV s (balB v m))).enc) := by
 refine VCalls.go (nt := 16) (keep := [0, 1, 2, 6]) (muts := []) (mvs := []) [] f103_at rfl (by kernel_rfl) rfl (by kernel_rfl) rfl (fun i h => by cases h) rfl ?_
 intro hok
 simp only [go_sem] at hok
 simp only [Tryz.f103, Func.code, Option.getD_some]
 simp only [go_sem]
 have hb := balB_size v m hok.2.1 hok.2.2
 refine call_lend ?_
 simp only [go_sem]
 refine callN.eq (ok132 v m) (by simp only [go_sem]) ?_
 simp only [go_sem]
 refine call_lend ?_
 simp only [go_sem]
 refine callN.eq (ok131 s (balB v m) (by omega)) (by simp only [go_sem]) ?_
 simp only [go_sem]
end Go.VS
set_option linter.unusedSimpArgs false
set_option linter.unusedVariables false
open Go.Proofs
set_option maxRecDepth 20000
namespace Go.VS
theorem f65_at : gz.P.funcs[65]? = some Tryz.f65 := by
 have h : Tryz.prog.funcs[65]? = some Tryz.f65 := by kernel_rfl
 exact h
theorem f99_at : gz.P.funcs[99]? = some Tryz.f99 := by
 have h : Tryz.prog.funcs[99]? = some Tryz.f99 := by kernel_rfl
 exact h
theorem f64_at : gz.P.funcs[64]? = some Tryz.f64 := by
 have h : Tryz.prog.funcs[64]? = some Tryz.f64 := by kernel_rfl
 exact h
def Blk.nm (b : Blk) : Int := if dig b.sh < 1 then 1 else dig b.sh
theorem Blk.nm_rng (b : Blk) : 1 <= b.nm /\ b.nm < 2147483647 := by
 have := digV_rng b.sh
 unfold Blk.nm
 split <;> omega
theorem ok65 (b : Blk) : VCalls gz 65 [b.enc false] none (fun y _ => y = .lit (.int .i64 b.nm)) := by
 refine VCalls.go (nt := 7) (keep := [0, 1, 2]) (muts := []) (mvs := []) [] f65_at rfl (by kernel_rfl) rfl (by kernel_rfl) rfl (fun i h => by cases h) rfl ?_
 intro hok
 simp only [go_sem] at hok
 simp only [Tryz.f65, Func.code, Option.getD_some]
 simp only [go_sem]
 refine call_lend ?_
 simp only [go_sem]
 refine callN.eq (ok102 b) (by simp only [go_sem]) ?_
 simp only [go_sem]
 refine call_lend ?_
 simp only [go_sem]
 refine callN.eq (ok101 b.sh) (by simp only [go_sem]) ?_
 simp only [go_sem]
 refine call_lend ?_
 simp only [go_sem]
 refine callN.eq (ok100 1 (dig b.sh)) (by simp only [go_sem]) ?_
 simp only [go_sem]
 try rfl
def fndP (name view : Int) (b : Blk) : Bool := decide (b.view = view) && decide (b.nm = name)
theorem getElem_D {α : Type} [Inhabited α] {xs : List α} {i : Nat} (h : i < xs.length) : xs[i] = xs.getD i default := by simp [List.getD, h]
theorem take_all {α : Type} [Inhabited α] {xs : List α} {p : α -> Bool} {i : Nat} (hi : i <= xs.length) (h : ∀ j, j < i -> p (xs.getD j default) = false) : ∀ x ∈ xs.take i, p x = false := fun x hx => by
 obtain ⟨j, hj, rfl⟩ := List.mem_iff_getElem.1 hx
 rw [List.length_take] at hj
 rw [List.getElem_take, getElem_D (by omega)]
 exact h j (by omega)
theorem nx {P : Nat -> Prop} {i : Nat} (he : ∀ j, j < i -> P j) (h : P i) : ∀ j, j < i + 1 -> P j := fun j hj => by
 by_cases hji : j < i
 ·exact he j hji
 ·have : j = i := by omega
  subst this
  exact h
theorem ok99 (l : List Blk) (name view : Int) : VCalls gz 99 [.lst false 8 (l.map (Blk.enc false)), .lit (.int .i64 name), .lit (.int .i64 view)] none (fun y _ => y = .lit (.int .i64 (idxOf (fndP name view) l))) := by
 refine VCalls.go (nt := 31) (keep := [0, 1, 2, 6, 7, 11, 29]) (muts := []) (mvs := []) [] f99_at rfl (by kernel_rfl) rfl (by kernel_rfl) rfl (fun i h => by cases h) rfl ?_
 intro hok
 simp only [go_sem] at hok
 simp only [Tryz.f99, Func.code, Option.getD_some]
 simp only [go_sem]
 refine vm_loopK (α := Nat) (fun i => [(0, .lst false 8 (l.map (Blk.enc false))), (1, .lit (.int .i64 name)), (2, .lit (.int .i64 view)), (7, .lit (.int .i64 i))]) (fun i => i <= l.length /\ ∀ j, j < i -> fndP name view (l.getD j default) = false) (fun i => l.length - i) 0 ?_ ⟨by omega, fun j hj => by omega⟩ (by kernel_rfl) (fun _ => rfl) ?_
 ·simp only [go_sem]
  try rfl
 ·rintro i ⟨hi, he⟩ hk
  simp only [go_sem]
  intro _
  first | refine branch_ndec (fun h6 => ?_) (fun h6 => ?_) | refine branch_dec (fun h6 => ?_) (fun h6 => ?_) | refine branch_nbool (fun h6 => ?_) (fun h6 => ?_) | refine branch_split (fun h6 => ?_) (fun h6 => ?_)
  rotate_left
  ·have hie : i = l.length := by omega
   have : idxOf (fndP name view) l = -1 := idxOf_none (fun x hx => take_all (i := i) hi he x (by rw [hie, List.take_length]; exact hx))
   simp only [go_sem, this]
  have hlt : i < l.length := by omega
  have h0 : (0 : Int) <= (i : Int) := by omega
  have hw3 : IntKind.i64.wrap ((i : Int) + 1) = ((i + 1 : Nat) : Int) := by rw [wrap64 (by omega) (by omega)]; omega
  simp only [go_sem, h0, hlt, h6]
  by_cases h7 : (l.getD i default).view = view
  rotate_left
  ·simp only [go_sem, h7, hw3]
   refine again_intro (i + 1) ⟨by omega, nx he (by simp only [fndP, decide_eq_false h7, Bool.false_and])⟩ (by omega) ?_
   simp only [go_sem]
   try rfl
  ·simp only [go_sem, eq_true h7, h0, hlt, h6]
   refine call_lend ?_
   simp only [go_sem]
   refine callN.eq (ok65 (l.getD i default)) (by simp only [go_sem]) ?_
   simp only [go_sem]
   by_cases h8 : (l.getD i default).nm = name
   rotate_left
   ·simp only [go_sem, h8, hw3]
    refine again_intro (i + 1) ⟨by omega, nx he (by simp only [fndP, decide_eq_false h8, Bool.and_false])⟩ (by omega) ?_
    simp only [go_sem]
    try rfl
   ·have : idxOf (fndP name view) l = i := idxOf_hit (take_all hi he) hlt (by rw [getElem_D hlt, fndP, decide_eq_true h7, decide_eq_true h8]; rfl)
    simp only [go_sem, eq_true h8, this]
def knwB (l : List Blk) (p : Prf) : Bool := p.one || l.any (fndP p.name p.view)
theorem ok64 (l : List Blk) (p : Prf) : VCalls gz 64 [.lst false 8 (l.map (Blk.enc false)), p.enc false] none (fun y _ => y = .lit (.bool (knwB l p))) := by
 refine VCalls.go (nt := 16) (keep := [0, 1, 3, 4]) (muts := []) (mvs := []) [] f64_at rfl (by kernel_rfl) rfl (by kernel_rfl) rfl (fun i h => by cases h) rfl ?_
 intro hok
 simp only [go_sem] at hok
 simp only [Tryz.f64, Func.code, Option.getD_some]
 simp only [go_sem]
 refine call_lend ?_
 simp only [go_sem]
 refine callN.eq (ok95 p) (by simp only [go_sem]) ?_
 simp only [go_sem]
 cases h1 : p.one
 ·simp only [go_sem]
  refine call_lend ?_
  simp only [go_sem]
  refine callN.eq (ok99 l p.name p.view) (by simp only [go_sem]) ?_
  simp only [go_sem]
  simp only [knwB, h1, Bool.false_or, idxOf_nonneg, Bool.decide_eq_true]
 ·simp only [go_sem]
  simp only [knwB, h1, Bool.true_or]
end Go.VS
set_option linter.unusedSimpArgs false
set_option linter.unusedVariables false
open Go.Proofs
set_option maxRecDepth 20000
namespace Go.VS
theorem blkNoRefs {own : Bool} {xs : List Blk} : noRefs (xs.map (Blk.enc own)) = true := noRefs_map fun x => by simp only [go_sem]
theorem blkClosed {xs : List Blk} : closedAs (xs.map (Blk.enc true)) = true := closedAs_map fun x => by simp only [go_sem]
theorem blkFlat {xs : List Blk} : flatAs (xs.map (Blk.enc false)) = true := flatAs_map fun x => by simp only [go_sem]
theorem blkShds {own : Bool} {xs : List Blk} : toShds (xs.map (Blk.enc own)) = xs.map (Blk.enc false) := toShds_mapTo fun x => by cases own <;> simp only [go_sem]
attribute [go_sem] blkNoRefs blkClosed blkFlat blkShds
end Go.VS
set_option linter.unusedSimpArgs false
set_option linter.unusedVariables false
open Go.Proofs
set_option maxRecDepth 20000
namespace Go.VS
structure Msg where
 kind : Int
 src : Int
 dst : Int
 view : Int
 block : Blk
 vote : Vot
 proof : Prf
instance : DecidableEq Msg := fun a b => by
 cases a; cases b; simp only [Msg.mk.injEq]; infer_instance
instance : Inhabited Msg := ⟨⟨0, 0, 0, 0, default, default, default⟩⟩
def Msg.enc (own : Bool) (m : Msg) : AVal := .agg [.lit (.int .i64 m.kind), .lit (.int .i64 m.src), .lit (.int .i64 m.dst), .lit (.int .i64 m.view), m.block.enc own, m.vote.enc, m.proof.enc own]
theorem Msg.enc_eq {own : Bool} {m : Msg} : Msg.enc own m = .agg [.lit (.int .i64 m.kind), .lit (.int .i64 m.src), .lit (.int .i64 m.dst), .lit (.int .i64 m.view), m.block.enc own, m.vote.enc, m.proof.enc own] := nr rfl
attribute [go_sem] Msg.enc_eq
theorem msgNoRefs {own : Bool} {xs : List Msg} : noRefs (xs.map (Msg.enc own)) = true := noRefs_map fun x => by simp only [go_sem]
theorem msgClosed {xs : List Msg} : closedAs (xs.map (Msg.enc true)) = true := closedAs_map fun x => by simp only [go_sem]
theorem msgFlat {xs : List Msg} : flatAs (xs.map (Msg.enc false)) = true := flatAs_map fun x => by simp only [go_sem]
theorem msgShds {own : Bool} {xs : List Msg} : toShds (xs.map (Msg.enc own)) = xs.map (Msg.enc false) := toShds_mapTo fun x => by cases own <;> simp only [go_sem]
attribute [go_sem] msgNoRefs msgClosed msgFlat msgShds
end Go.VS
set_option linter.unusedSimpArgs false
set_option linter.unusedVariables false
open Go.Proofs
set_option maxRecDepth 20000
namespace Go.VS
theorem f135_at : gz.P.funcs[135]? = some Tryz.f135 := by
 have h : Tryz.prog.funcs[135]? = some Tryz.f135 := by kernel_rfl
 exact h
theorem f110_at : gz.P.funcs[110]? = some Tryz.f110 := by
 have h : Tryz.prog.funcs[110]? = some Tryz.f110 := by kernel_rfl
 exact h
theorem f82_at : gz.P.funcs[82]? = some Tryz.f82 := by
 have h : Tryz.prog.funcs[82]? = some Tryz.f82 := by kernel_rfl
 exact h
theorem f111_at : gz.P.funcs[111]? = some Tryz.f111 := by
 have h : Tryz.prog.funcs[111]? = some Tryz.f111 := by kernel_rfl
 exact h
structure Pty where
 r : Rpl
 names : List Int
 out : List Msg
def Pty.enc (own : Bool) (p : Pty) : AVal := .agg [p.r.enc own, .lst own 1 (p.names.map intA), .lst own 20 (p.out.map (Msg.enc own))]
theorem Pty.enc_eq {own : Bool} {p : Pty} : Pty.enc own p = .agg [p.r.enc own, .lst own 1 (p.names.map intA), .lst own 20 (p.out.map (Msg.enc own))] := nr rfl
attribute [go_sem] Pty.enc_eq
def isI (n x : Int) : Bool := decide (n = x)
theorem ok135 (l : List Int) (n : Int) : VCalls gz 135 [.lst false 1 (l.map intA), .lit (.int .i64 n)] none (fun y _ => y = .lit (.int .i64 (idxOf (isI n) l))) := by
 refine VCalls.go (nt := 19) (keep := [0, 1, 4, 5, 7, 8, 9, 16]) (muts := []) (mvs := []) [] f135_at rfl (by kernel_rfl) rfl (by kernel_rfl) rfl (fun i h => by cases h) rfl ?_
 intro hok
 simp only [go_sem] at hok
 simp only [Tryz.f135, Func.code, Option.getD_some]
 simp only [go_sem]
 intro hm
 refine vm_loopK (α := Nat) (fun i => [(0, .lst false 1 (l.map intA)), (1, .lit (.int .i64 n)), (7, .lit (.int .i64 l.length)), (8, .lit (.int .i64 i))]) (fun i => i <= l.length /\ ∀ j, j < i -> isI n (l.getD j default) = false) (fun i => l.length - i) 0 ?_ ⟨by omega, fun j hj => by omega⟩ (by kernel_rfl) (fun _ => rfl) ?_
 ·simp only [go_sem]
  try rfl
 ·rintro i ⟨hi, he⟩ hk
  simp only [go_sem]
  first | refine branch_ndec (fun h6 => ?_) (fun h6 => ?_) | refine branch_dec (fun h6 => ?_) (fun h6 => ?_) | refine branch_nbool (fun h6 => ?_) (fun h6 => ?_) | refine branch_split (fun h6 => ?_) (fun h6 => ?_)
  rotate_left
  ·have hie : i = l.length := by omega
   have : idxOf (isI n) l = -1 := idxOf_none (fun x hx => take_all (i := i) hi he x (by rw [hie, List.take_length]; exact hx))
   simp only [go_sem, this]
  have hlt : i < l.length := by omega
  have h0 : (0 : Int) <= (i : Int) := by omega
  have hw3 : IntKind.i64.wrap ((i : Int) + 1) = ((i + 1 : Nat) : Int) := by rw [wrap64 (by omega) (by omega)]; omega
  simp only [go_sem, h0, hlt, h6]
  first | refine branch_ndec (fun h7 => ?_) (fun h7 => ?_) | refine branch_dec (fun h7 => ?_) (fun h7 => ?_) | refine branch_nbool (fun h7 => ?_) (fun h7 => ?_) | refine branch_split (fun h7 => ?_) (fun h7 => ?_)
  ·have : idxOf (isI n) l = i := idxOf_hit (take_all hi he) hlt (by rw [getElem_D hlt, isI, decide_eq_true h7])
   simp only [go_sem, this]
  ·simp only [go_sem, hw3]
   refine again_intro (i + 1) ⟨by omega, nx he (by rw [isI, decide_eq_false h7])⟩ (by omega) ?_
   simp only [go_sem]
   try rfl
theorem ok110 (p : Pty) (n : Int) : VCalls gz 110 [.ptr false (p.enc false), .lit (.int .i64 n)] none (fun y _ => y = .lit (.int .i64 (idxOf (isI n) p.names))) := by
 refine VCalls.go (nt := 11) (keep := [0, 1, 4]) (muts := []) (mvs := []) [] f110_at rfl (by kernel_rfl) rfl (by kernel_rfl) rfl (fun i h => by cases h) rfl ?_
 intro hok
 simp only [go_sem] at hok
 simp only [Tryz.f110, Func.code, Option.getD_some]
 simp only [go_sem]
 refine call_lend ?_
 simp only [go_sem]
 refine callN.eq (ok135 p.names n) (by simp only [go_sem]) ?_
 simp only [go_sem]
theorem idxOf_rng {α : Type} (p : α -> Bool) (xs : List α) : -1 <= idxOf p xs /\ idxOf p xs < xs.length := by
 unfold idxOf
 split
 ·rename_i h
  obtain ⟨x, hx, hp⟩ := List.any_eq_true.1 h
  have := List.findIdx_lt_length_of_exists ⟨x, hx, hp⟩
  omega
 ·omega
def Pty.fnd (p : Pty) (n : Int) : Int := idxOf (isI n) p.names
def Pty.has (p : Pty) (n view : Int) : Int := if 0 <= p.fnd n /\ ¬ (p.r.blocks.getD (p.fnd n).toNat default).view = view then -1 else p.fnd n
theorem ok82 (p : Pty) (hl : p.names.length = p.r.blocks.length) (n view : Int) : VCalls gz 82 [.ptr false (p.enc false), .lit (.int .i64 n), .lit (.int .i64 view)] none (fun y _ => y = .lit (.int .i64 (p.has n view))) := by
 refine VCalls.go (nt := 27) (keep := [0, 1, 2, 6, 7, 25]) (muts := []) (mvs := []) [] f82_at rfl (by kernel_rfl) rfl (by kernel_rfl) rfl (fun i h => by cases h) rfl ?_
 intro hok
 simp only [go_sem] at hok
 simp only [Tryz.f82, Func.code, Option.getD_some]
 simp only [go_sem]
 refine call_lend ?_
 simp only [go_sem]
 refine callN.eq (ok110 p n) (by simp only [go_sem]) ?_
 simp only [go_sem]
 have hr := idxOf_rng (isI n) p.names
 have hd : p.fnd n = idxOf (isI n) p.names := rfl
 rw [<- hd] at hr ⊢
 by_cases h1 : 0 <= p.fnd n
 rotate_left
 ·have : p.has n view = p.fnd n := if_neg (fun h => h1 h.1)
  simp only [go_sem, h1, this]
 obtain ⟨f, hf⟩ := Int.eq_ofNat_of_zero_le h1
 have h2 : (0 : Int) <= (f : Int) := by omega
 have h3 : (f : Int) < (p.r.blocks.length : Int) := by omega
 have h4 : f < p.r.blocks.length := by omega
 have he : p.has n view = if ¬ (p.r.blocks.getD f default).view = view then -1 else (f : Int) := by
  unfold Pty.has
  rw [hf, Int.toNat_natCast]
  simp only [h2, true_and]
 simp only [go_sem, hf, h2, h3, h4]
 by_cases h5 : (p.r.blocks.getD f default).view = view
 ·rw [if_neg (fun h => h h5)] at he
  simp only [go_sem, eq_true h5, he]
 ·rw [if_pos h5] at he
  simp only [go_sem, h5, he]
def Pty.knw (p : Pty) (b : Blk) (many : Int) : Bool := (decide (b.parent = 0) && b.proof.one) || (decide (0 <= p.has b.parent b.proof.view) && decide (p.has b.parent b.proof.view < many))
theorem ok111 (p : Pty) (hl : p.names.length = p.r.blocks.length) (b : Blk) (many : Int) : VCalls gz 111 [.ptr false (p.enc false), b.enc false, .lit (.int .i64 many)] none (fun y _ => y = .lit (.bool (p.knw b many))) := by
 refine VCalls.go (nt := 30) (keep := [0, 1, 2, 4, 6, 7, 15]) (muts := []) (mvs := []) [] f111_at rfl (by kernel_rfl) rfl (by kernel_rfl) rfl (fun i h => by cases h) rfl ?_
 intro hok
 simp only [go_sem] at hok
 simp only [Tryz.f111, Func.code, Option.getD_some]
 simp only [go_sem]
 have hN : (decide (b.parent = 0) && b.proof.one) = false -> p.knw b many = (decide (0 <= p.has b.parent b.proof.view) && decide (p.has b.parent b.proof.view < many)) := fun h => by rw [Pty.knw, h, Bool.false_or]
 have hY : (decide (b.parent = 0) && b.proof.one) = true -> p.knw b many = true := fun h => by rw [Pty.knw, h, Bool.true_or]
 by_cases h1 : b.parent = 0
 ·simp only [go_sem, eq_true h1]
  refine call_lend ?_
  simp only [go_sem]
  refine callN.eq (ok81 b.proof) (by simp only [go_sem]) ?_
  simp only [go_sem]
  cases h2 : b.proof.one
  ·have e := hN (by rw [h2, Bool.and_false])
   simp only [go_sem]
   refine call_lend ?_
   simp only [go_sem]
   refine callN.eq (ok82 p hl b.parent b.proof.view) (by simp only [go_sem]) ?_
   simp only [go_sem]
   by_cases h3 : 0 <= p.has b.parent b.proof.view
   ·simp only [go_sem, eq_true h3, e, decide_true, Bool.true_and]
   ·simp only [go_sem, h3, e, decide_false, Bool.false_and]
  ·have e := hY (by rw [h2, decide_eq_true h1]; rfl)
   simp only [go_sem, e]
 ·have e := hN (by rw [decide_eq_false h1, Bool.false_and])
  simp only [go_sem, h1]
  refine call_lend ?_
  simp only [go_sem]
  refine callN.eq (ok82 p hl b.parent b.proof.view) (by simp only [go_sem]) ?_
  simp only [go_sem]
  by_cases h3 : 0 <= p.has b.parent b.proof.view
  ·simp only [go_sem, eq_true h3, e, decide_true, Bool.true_and]
  ·simp only [go_sem, h3, e, decide_false, Bool.false_and]
end Go.VS
set_option linter.unusedSimpArgs false
set_option linter.unusedVariables false
open Go.Proofs
set_option maxRecDepth 20000
namespace Go.VS
theorem f83_at : gz.P.funcs[83]? = some Tryz.f83 := by
 have h : Tryz.prog.funcs[83]? = some Tryz.f83 := by kernel_rfl
 exact h
def Pty.par (p : Pty) : Nat -> Int
 | 0 => 0
 | i + 1 => p.r.done.getD i default
def Pty.dnR (p : Pty) (i : Nat) : Bool := decide (0 <= p.fnd (p.r.done.getD i default)) && decide ((p.r.blocks.getD (p.fnd (p.r.done.getD i default)).toNat default).parent = p.par i)
def Pty.dnOk (p : Pty) : Bool := (List.range p.r.done.length).all p.dnR
theorem Pty.dn_bad {p : Pty} {i : Nat} (hi : i < p.r.done.length) (h : p.dnR i = false) : p.dnOk = false :=
 List.all_eq_false.2 ⟨i, List.mem_range.2 hi, by rw [h]; decide⟩
theorem ok83 (p : Pty) (hl : p.names.length = p.r.blocks.length) : VCalls gz 83 [.ptr false (p.enc false)] none (fun y _ => y = .lit (.bool p.dnOk)) := by
 refine VCalls.go (nt := 37) (keep := [0, 2, 3, 5, 6, 11, 12, 13, 14, 34]) (muts := []) (mvs := []) [] f83_at rfl (by kernel_rfl) rfl (by kernel_rfl) rfl (fun i h => by cases h) rfl ?_
 intro hok
 simp only [go_sem] at hok
 simp only [Tryz.f83, Func.code, Option.getD_some]
 simp only [go_sem]
 intro hm
 refine vm_loopK (α := Nat) (fun i => [(0, .ptr false (p.enc false)), (2, .lit (.bool false)), (3, .lit (.int .i64 (p.par i))), (11, .lst false 1 (p.r.done.map intA)), (12, .lit (.int .i64 p.r.done.length)), (13, .lit (.int .i64 i))]) (fun i => i <= p.r.done.length /\ ∀ j, j < i -> p.dnR j = true) (fun i => p.r.done.length - i) 0 ?_ ⟨by omega, fun j hj => by omega⟩ (by kernel_rfl) (fun _ => rfl) ?_
 ·simp only [go_sem]
  exact ⟨rfl, rfl⟩
 ·rintro i ⟨hi, he⟩ hk
  simp only [go_sem]
  first | refine branch_ndec (fun h6 => ?_) (fun h6 => ?_) | refine branch_dec (fun h6 => ?_) (fun h6 => ?_) | refine branch_nbool (fun h6 => ?_) (fun h6 => ?_) | refine branch_split (fun h6 => ?_) (fun h6 => ?_)
  rotate_left
  ·have : p.dnOk = true := List.all_eq_true.2 fun x hx => he x (by have := List.mem_range.1 hx; omega)
   simp only [go_sem, this]
  have hlt : i < p.r.done.length := by omega
  have h0 : (0 : Int) <= (i : Int) := by omega
  have hw3 : IntKind.i64.wrap ((i : Int) + 1) = ((i + 1 : Nat) : Int) := by rw [wrap64 (by omega) (by omega)]; omega
  simp only [go_sem, h0, hlt, h6]
  refine call_lend ?_
  simp only [go_sem]
  refine callN.eq (ok110 p (p.r.done.getD i default)) (by simp only [go_sem]) ?_
  simp only [go_sem]
  have hr := idxOf_rng (isI (p.r.done.getD i default)) p.names
  have hd : p.fnd (p.r.done.getD i default) = idxOf (isI (p.r.done.getD i default)) p.names := rfl
  rw [<- hd] at hr ⊢
  by_cases h1 : 0 <= p.fnd (p.r.done.getD i default)
  rotate_left
  ·have h1b : p.fnd (p.r.done.getD i default) < 0 := by omega
   have : p.dnOk = false := Pty.dn_bad hlt (by rw [Pty.dnR, decide_eq_false h1, Bool.false_and])
   simp only [go_sem, eq_true h1b, this]
  obtain ⟨f, hf⟩ := Int.eq_ofNat_of_zero_le h1
  have h2 : (0 : Int) <= (f : Int) := by omega
  have h2b : ¬ (f : Int) < 0 := by omega
  have h3 : (f : Int) < (p.r.blocks.length : Int) := by omega
  have h4 : f < p.r.blocks.length := by omega
  have hdn : p.dnR i = decide ((p.r.blocks.getD f default).parent = p.par i) := by
   rw [Pty.dnR, decide_eq_true h1, Bool.true_and, hf, Int.toNat_natCast]
  simp only [go_sem, hf, h2, h2b, h3, h4]
  by_cases h5 : (p.r.blocks.getD f default).parent = p.par i
  rotate_left
  ·have : p.dnOk = false := Pty.dn_bad hlt (by rw [hdn, decide_eq_false h5])
   simp only [go_sem, h5, this]
  ·simp only [go_sem, eq_true h5, hw3]
   refine again_intro (i + 1) ⟨by omega, nx he (by rw [hdn, decide_eq_true h5])⟩ (by omega) ?_
   simp only [go_sem]
   try rfl
end Go.VS
