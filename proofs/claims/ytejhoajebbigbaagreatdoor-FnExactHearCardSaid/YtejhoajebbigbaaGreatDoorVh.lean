/- VS: functions by the machine. -/
import Derived.Test.YtejhoajebbigbaaGreatDoorVg
set_option linter.unusedSimpArgs false
set_option linter.unusedVariables false
open Go.Proofs
set_option maxRecDepth 20000
namespace Go.VS
theorem f66_at : gz.P.funcs[66]? = some Tryz.f66 := by
 have h : Tryz.prog.funcs[66]? = some Tryz.f66 := by kernel_rfl
 exact h
theorem f86_at : gz.P.funcs[86]? = some Tryz.f86 := by
 have h : Tryz.prog.funcs[86]? = some Tryz.f86 := by kernel_rfl
 exact h
def Vot.ok (v : Vot) (n : Int) : Bool := srv n && (decide (0 <= v.bY /\ v.bY <= n - 1) && (decide (1 <= v.view /\ v.view <= 100000) && (decide (0 <= v.name /\ v.name <= 2147483646) && decide (v.tag = tagV v.bY (balB v.view v.name)))))
theorem qrm_pos {n : Int} : (0 < qrm n) = (srv n = true) := by
 unfold qrm
 by_cases h : srv n = true
 ·simp only [h, if_true]
  rcases srv_iff.1 h with rfl | rfl | rfl <;> simp <;> decide
 ·simp [h]
theorem qrm_neg {n : Int} : (qrm n < 0) = (srv n = false) := by
 unfold qrm
 by_cases h : srv n = true
 ·simp only [h, if_true]
  rcases srv_iff.1 h with rfl | rfl | rfl <;> simp <;> decide
 ·simp [h]
theorem ok66 (v : Vot) (n : Int) : VCalls gz 66 [v.enc, .lit (.int .i64 n)] none (fun y _ => y = .lit (.bool (v.ok n))) := by
 refine VCalls.go (nt := 35) (keep := [0, 1, 2, 4]) (muts := []) (mvs := []) [(1, .tree true (.take 0 (.all (.cons 1 (.take 2 (.take 3 (.take 4 (.take 5 (.take 6 (.all (.cons 7 (.take 8 (.take 9 (.take 10 (.take 11 (.all (.cons 12 (.take 13 (.take 14 (.take 15 (.take 16 (.all (.cons 17 (.take 18 (.take 19 (.take 20 (.take 21 (.take 22 (.take 23 (.take 24 (.take 25 (.take 27 (.all (.cons 26 (.take 28 (.take 29 (.all (.cons 30 .done .nil)))) .nil))))))))))) .nil)))))) .nil)))))) .nil))))))) .nil))))] f66_at rfl (by kernel_rfl) rfl (by kernel_rfl) rfl (fun i h => by cases h) rfl ?_
 intro hok
 simp only [go_sem] at hok
 simp only [Tryz.f66, Func.code, Option.getD_some]
 simp only [go_sem]
 refine call_lend ?_
 simp only [go_sem]
 refine callN.eq (ok59 n) (by simp only [go_sem]) ?_
 simp only [go_sem]
 by_cases h1 : srv n = true
 rotate_left
 ·have : v.ok n = false := by simp [Vot.ok, h1]
  simp only [go_sem, h1, this]
 have hn := srv_iff.1 h1
 have hw : IntKind.i64.wrap (n - 1) = n - 1 := wrap64 (by omega) (by omega)
 simp only [go_sem, h1, hw]
 refine call_lend ?_
 simp only [go_sem]
 refine callN.eq (ok60 v.bY 0 (n - 1)) (by simp only [go_sem]) ?_
 simp only [go_sem]
 by_cases h2 : 0 <= v.bY /\ v.bY <= n - 1
 rotate_left
 ·have : v.ok n = false := by simp only [Vot.ok, eq_false h2, decide_false, Bool.false_and, Bool.and_false]
  simp only [go_sem, eq_false h2, this]
 simp only [go_sem, eq_true h2]
 refine call_lend ?_
 simp only [go_sem]
 refine callN.eq (ok60 v.view 1 100000) (by simp only [go_sem]) ?_
 simp only [go_sem]
 by_cases h3 : 1 <= v.view /\ v.view <= 100000
 rotate_left
 ·have : v.ok n = false := by simp only [Vot.ok, eq_false h3, decide_false, Bool.false_and, Bool.and_false]
  simp only [go_sem, eq_false h3, this]
 simp only [go_sem, eq_true h3]
 refine call_lend ?_
 simp only [go_sem]
 refine callN.eq (ok96 v.name) (by simp only [go_sem]) ?_
 simp only [go_sem]
 by_cases h4 : 0 <= v.name /\ v.name <= 2147483646
 rotate_left
 ·have : v.ok n = false := by simp only [Vot.ok, eq_false h4, decide_false, Bool.false_and, Bool.and_false]
  simp only [go_sem, eq_false h4, this]
 simp only [go_sem, eq_true h4]
 refine call_lend ?_
 simp only [go_sem]
 refine callN.eq (ok103 v.bY v.view v.name) (by simp only [go_sem]) ?_
 simp only [go_sem]
 simp only [Vot.ok, h1, eq_true h2, eq_true h3, eq_true h4, decide_true, Bool.true_and]
 exact decide_eq_decide.2 ⟨Eq.symm, Eq.symm⟩
theorem ok86 (v : Vot) (n : Int) : VCalls gz 86 [v.enc, .lit (.int .i64 n)] none (fun y _ => y = .lit (.bool (v.ok n))) := by
 refine VCalls.go (nt := 37) (keep := [0, 1, 2, 4]) (muts := []) (mvs := []) [(1, .tree true (.take 0 (.all (.cons 1 (.take 2 (.take 3 (.take 4 (.take 5 (.take 6 (.take 7 (.all (.cons 8 (.take 9 (.take 10 (.take 11 (.take 12 (.all (.cons 13 (.take 14 (.take 15 (.take 16 (.take 17 (.all (.cons 18 (.take 19 (.take 20 (.take 21 (.take 22 (.take 23 (.take 24 (.take 25 (.take 26 (.take 28 (.take 29 (.all (.cons 27 (.all (.cons 30 (.take 31 (.all (.cons 32 .done .nil))) .nil)) .nil)))))))))))) .nil)))))) .nil)))))) .nil)))))))) .nil))))] f86_at rfl (by kernel_rfl) rfl (by kernel_rfl) rfl (fun i h => by cases h) rfl ?_
 intro hok
 simp only [go_sem] at hok
 simp only [Tryz.f86, Func.code, Option.getD_some]
 simp only [go_sem]
 refine call_lend ?_
 simp only [go_sem]
 refine callN.eq (ok76 n) (by simp only [go_sem]) ?_
 simp only [go_sem]
 have hq := qrm_pos (n := n)
 by_cases h1 : srv n = true
 rotate_left
 ·have : v.ok n = false := by simp [Vot.ok, h1]
  simp only [go_sem, hq, h1, this]
 have hn := srv_iff.1 h1
 have hw : IntKind.i64.wrap (n - 1) = n - 1 := wrap64 (by omega) (by omega)
 simp only [go_sem, hq, h1, hw]
 refine call_lend ?_
 simp only [go_sem]
 refine callN.eq (ok77 v.bY 0 (n - 1)) (by simp only [go_sem]) ?_
 simp only [go_sem]
 by_cases h2 : 0 <= v.bY /\ v.bY <= n - 1
 rotate_left
 ·have : v.ok n = false := by simp only [Vot.ok, eq_false h2, decide_false, Bool.false_and, Bool.and_false]
  simp only [go_sem, eq_false h2, this]
 simp only [go_sem, eq_true h2]
 refine call_lend ?_
 simp only [go_sem]
 refine callN.eq (ok78 v.view) (by simp only [go_sem]) ?_
 simp only [go_sem]
 by_cases h3 : 1 <= v.view /\ v.view <= 100000
 rotate_left
 ·have : v.ok n = false := by simp only [Vot.ok, eq_false h3, decide_false, Bool.false_and, Bool.and_false]
  simp only [go_sem, eq_false h3, this]
 simp only [go_sem, eq_true h3]
 refine call_lend ?_
 simp only [go_sem]
 refine callN.eq (ok113 v.name) (by simp only [go_sem]) ?_
 simp only [go_sem]
 by_cases h4 : 0 <= v.name /\ v.name <= 2147483646
 rotate_left
 ·have : v.ok n = false := by simp only [Vot.ok, eq_false h4, decide_false, Bool.false_and, Bool.and_false]
  simp only [go_sem, eq_false h4, this]
 simp only [go_sem, eq_true h4]
 refine call_lend ?_
 simp only [go_sem]
 refine callN.eq (ok115 v.view v.name) (by simp only [go_sem]) ?_
 simp only [go_sem]
 have hb := balB_size v.view v.name hok.1.1 hok.1.2.1
 refine call_lend ?_
 simp only [go_sem]
 refine callN.eq (ok114 v.bY (balB v.view v.name) v.tag (by omega) (by omega)) (by simp only [go_sem]) ?_
 simp only [go_sem]
 simp only [Vot.ok, h1, eq_true h2, eq_true h3, eq_true h4, decide_true, Bool.true_and]
end Go.VS
set_option linter.unusedSimpArgs false
set_option linter.unusedVariables false
open Go.Proofs
set_option maxRecDepth 20000
namespace Go.VS
theorem f62_at : gz.P.funcs[62]? = some Tryz.f62 := by
 have h : Tryz.prog.funcs[62]? = some Tryz.f62 := by kernel_rfl
 exact h
theorem f79_at : gz.P.funcs[79]? = some Tryz.f79 := by
 have h : Tryz.prog.funcs[79]? = some Tryz.f79 := by kernel_rfl
 exact h
def Prf.rnd (p : Prf) (n : Int) (i : Nat) : Bool := (Vot.mk p.view p.name (p.bys.getD i default) (p.tags.getD i default)).ok n && !(decide (0 < i) && decide (p.bys.getD i default <= p.bys.getD (i - 1) default))
def Prf.len (p : Prf) (n : Int) : Prop := qrm n <= (p.bys.length : Int) /\ p.bys.length = p.tags.length
instance (p : Prf) (n : Int) : Decidable (p.len n) := inferInstanceAs (Decidable (_ /\ _))
def Prf.ok (p : Prf) (n : Int) : Bool := srv n && (p.one || (decide (p.len n) && (List.range p.bys.length).all (p.rnd n)))
section
variable {p : Prf} {n : Int}
theorem Prf.ok_srv (h : srv n = false) : p.ok n = false := by simp [Prf.ok, h]
theorem Prf.ok_one (h : srv n = true) (h1 : p.one = true) : p.ok n = true := by simp [Prf.ok, h, h1]
theorem Prf.ok_len (h1 : p.one = false) (h2 : ¬ p.len n) : p.ok n = false := by simp [Prf.ok, h1, h2]
theorem Prf.ok_bad (h1 : p.one = false) {i : Nat} (hi : i < p.bys.length) (hr : p.rnd n i = false) : p.ok n = false := by
 have : (List.range p.bys.length).all (p.rnd n) = false := by
  rw [List.all_eq_false]
  exact ⟨i, List.mem_range.2 hi, by simp [hr]⟩
 simp [Prf.ok, h1, this]
theorem Prf.ok_all (h : srv n = true) (h2 : p.len n) (hr : ∀ j, j < p.bys.length -> p.rnd n j = true) : p.ok n = true := by
 have : (List.range p.bys.length).all (p.rnd n) = true := by
  rw [List.all_eq_true]
  exact fun x hx => hr x (List.mem_range.1 hx)
 simp [Prf.ok, h, h2, this]
theorem Prf.ok_cases (h : p.ok n = true) : srv n = true /\ (p.one = true \/ (p.len n /\ ∀ j, j < p.bys.length -> p.rnd n j = true)) := by
 simp only [Prf.ok, Bool.and_eq_true, Bool.or_eq_true, decide_eq_true_eq, List.all_eq_true, List.mem_range] at h
 exact h
theorem Prf.len_pos (h : srv n = true) (h2 : p.len n) : 0 < p.bys.length := by
 have := (qrm_pos (n := n)).mpr h
 have := h2.1
 omega
theorem Prf.rnd_view {i : Nat} (h : p.rnd n i = true) : (1 <= p.view /\ p.view <= 100000) /\ (0 <= p.name /\ p.name <= 2147483646) /\ (0 <= p.bys.getD i default /\ p.bys.getD i default <= n - 1) := by
 simp only [Prf.rnd, Vot.ok, Bool.and_eq_true, decide_eq_true_eq] at h
 exact ⟨h.1.2.2.1, h.1.2.2.2.1, h.1.2.1⟩
theorem Prf.rnd_eq {i : Nat} {b : Bool} (h : (Vot.mk p.view p.name (p.bys.getD i default) (p.tags.getD i default)).ok n = b) : p.rnd n i = (b && !(decide (0 < i) && decide (p.bys.getD i default <= p.bys.getD (i - 1) default))) := by
 rw [Prf.rnd, h]
end
theorem ok62 (p : Prf) (n : Int) : VCalls gz 62 [p.enc false, .lit (.int .i64 n)] none (fun y _ => y = .lit (.bool (p.ok n))) := by
 refine VCalls.go (nt := 81) (keep := [0, 1, 2, 4, 5, 8, 10, 37, 42, 80]) (muts := []) (mvs := []) [(5, .tree true (.take 0 (.take 1 (.all (.cons 2 (.take 3 (.take 4 (.take 5 (.take 6 (.all (.cons 7 (.take 8 (.take 9 (.take 10 (.take 11 (.take 12 (.take 13 (.take 14 (.all (.cons 15 (.take 16 (.take 17 (.take 18 (.take 19 (.take 20 (.take 21 (.take 22 (.take 23 (.take 24 (.take 25 (.take 26 .done))))))))))) .nil))))))))) .nil)))))) .nil))))), (10, .tree true (.take 0 (.take 1 (.take 2 (.take 3 (.take 4 (.take 5 (.take 6 (.take 7 (.take 8 (.take 9 (.take 10 (.take 11 (.take 12 (.take 13 (.take 15 (.all (.cons 14 (.all (.cons 16 (.take 17 (.take 18 (.take 19 (.take 20 (.take 21 (.take 22 (.take 23 (.take 24 (.take 25 (.take 26 (.take 27 (.take 28 (.take 29 (.take 30 (.take 31 (.take 32 (.take 33 (.take 34 (.take 35 .done))))))))))))))))))) .nil)) .nil))))))))))))))))))] f62_at rfl (by kernel_rfl) rfl (by kernel_rfl) rfl (fun i h => by cases h) rfl ?_
 intro hok
 simp only [go_sem] at hok
 simp only [Tryz.f62, Func.code, Option.getD_some]
 simp only [go_sem]
 refine call_lend ?_
 simp only [go_sem]
 refine callN.eq (ok59 n) (by simp only [go_sem]) ?_
 simp only [go_sem]
 cases h : srv n
 ·simp only [go_sem, Prf.ok_srv h]
 simp only [go_sem]
 refine call_lend ?_
 simp only [go_sem]
 refine callN.eq (ok95 p) (by simp only [go_sem]) ?_
 simp only [go_sem]
 cases h1 : p.one
 rotate_left
 ·simp only [go_sem, Prf.ok_one h h1]
 simp only [go_sem]
 refine call_lend ?_
 simp only [go_sem]
 refine callN.eq (ok60 p.view 1 100000) (by simp only [go_sem]) ?_
 simp only [go_sem]
 have hbad : p.len n -> ¬ ((1 <= p.view /\ p.view <= 100000) /\ (0 <= p.name /\ p.name <= 2147483646)) -> p.ok n = false := fun hl hv => Prf.ok_bad h1 (Prf.len_pos h hl) (by
  cases hr : p.rnd n 0
  ·rfl
  ·exact absurd ⟨(Prf.rnd_view hr).1, (Prf.rnd_view hr).2.1⟩ hv)
 have hall : ¬ (p.len n /\ (1 <= p.view /\ p.view <= 100000) /\ (0 <= p.name /\ p.name <= 2147483646)) -> p.ok n = false := fun hx => by
  by_cases hl : p.len n
  ·exact hbad hl fun hv => hx ⟨hl, hv⟩
  ·exact Prf.ok_len h1 hl
 by_cases h2 : 1 <= p.view /\ p.view <= 100000
 rotate_left
 ·simp only [go_sem, eq_false h2, hall (fun hx => h2 hx.2.1)]
 simp only [go_sem, eq_true h2]
 refine call_lend ?_
 simp only [go_sem]
 refine callN.eq (ok96 p.name) (by simp only [go_sem]) ?_
 simp only [go_sem]
 by_cases h3 : 0 <= p.name /\ p.name <= 2147483646
 rotate_left
 ·simp only [go_sem, eq_false h3, hall (fun hx => h3 hx.2.2)]
 simp only [go_sem, eq_true h3]
 intro hm
 refine call_lend ?_
 simp only [go_sem]
 refine callN.eq (ok97 n) (by simp only [go_sem]) ?_
 simp only [go_sem]
 by_cases h4 : (p.bys.length : Int) < qrm n
 ·have : p.ok n = false := Prf.ok_len h1 (fun hl => by have := hl.1; omega)
  simp only [go_sem, eq_true h4, this]
 simp only [go_sem, h4]
 intro hm2 hm3
 by_cases h5 : (p.bys.length : Int) = (p.tags.length : Int)
 rotate_left
 ·have : p.ok n = false := Prf.ok_len h1 (fun hl => by have := hl.2; omega)
  simp only [go_sem, h5, this]
 have hl : p.len n := ⟨by omega, by omega⟩
 have hl2 := hl.2
 simp only [go_sem, eq_true h5]
 refine vm_loopK (α := Nat) (fun i => [(1, .lit (.int .i64 n)), (2, .ptr true (p.enc false)), (4, .lit (.bool false)), (5, .lit (.int .i64 i))]) (fun i => i <= p.bys.length /\ ∀ j, j < i -> p.rnd n j = true) (fun i => p.bys.length - i) 0 ?_ ⟨by omega, fun j hj => by omega⟩ (by kernel_rfl) (fun _ => rfl) ?_
 ·simp only [go_sem]
  try trivial
 ·rintro i ⟨hi, he⟩ hk
  simp only [go_sem]
  intro _
  first | refine branch_ndec (fun h6 => ?_) (fun h6 => ?_) | refine branch_dec (fun h6 => ?_) (fun h6 => ?_) | refine branch_nbool (fun h6 => ?_) (fun h6 => ?_) | refine branch_split (fun h6 => ?_) (fun h6 => ?_)
  rotate_left
  ·have : p.ok n = true := Prf.ok_all h hl (fun j hj => he j (by omega))
   simp only [go_sem, this]
  have hlt : i < p.bys.length := by omega
  have hlt2 : i < p.tags.length := by omega
  have h0 : (0 : Int) <= (i : Int) := by omega
  have h6b : (i : Int) < (p.tags.length : Int) := by omega
  have hw3 : IntKind.i64.wrap ((i : Int) + 1) = ((i + 1 : Nat) : Int) := by rw [wrap64 (by omega) (by omega)]; omega
  simp only [go_sem, h0, hlt, h6, hlt2, h6b]
  refine call_lend ?_
  simp only [go_sem]
  refine callN.eq (ok66 ⟨p.view, p.name, p.bys.getD i default, p.tags.getD i default⟩ n) (by simp only [go_sem]) ?_
  simp only [go_sem]
  cases hv : (Vot.mk p.view p.name (p.bys.getD i default) (p.tags.getD i default)).ok n
  ·simp only [go_sem, Prf.ok_bad h1 hlt (Prf.rnd_eq hv)]
  have hr := Prf.rnd_eq hv
  have hnx : p.rnd n i = true -> ∀ j, j < i + 1 -> p.rnd n j = true := fun hr j hj => by
   by_cases hji : j < i
   ·exact he j hji
   ·have : j = i := by omega
    subst this
    exact hr
  by_cases h7 : (0 : Int) < (i : Int)
  rotate_left
  ·have h7b : ¬ 0 < i := by omega
   simp only [go_sem, h7, hw3]
   refine again_intro (i + 1) ⟨by omega, hnx (by rw [hr]; simp [h7b])⟩ (by omega) ?_
   simp only [go_sem]
   try trivial
  ·have h7b : 0 < i := by omega
   have hw4 : IntKind.i64.wrap ((i : Int) - 1) = ((i - 1 : Nat) : Int) := by rw [wrap64 (by omega) (by omega)]; omega
   have h8 : ((i - 1 : Nat) : Int) < (p.bys.length : Int) := by omega
   have h9 : (0 : Int) <= ((i - 1 : Nat) : Int) := by omega
   have h10 : i - 1 < p.bys.length := by omega
   simp only [go_sem, h7, hw4, h0, h6, h8, h9, h10, hlt]
   first | refine branch_ndec (fun h11 => ?_) (fun h11 => ?_) | refine branch_dec (fun h11 => ?_) (fun h11 => ?_) | refine branch_nbool (fun h11 => ?_) (fun h11 => ?_) | refine branch_split (fun h11 => ?_) (fun h11 => ?_)
   ·have : p.ok n = false := Prf.ok_bad h1 hlt (by rw [hr, decide_eq_true h7b, decide_eq_true h11]; rfl)
    simp only [go_sem, this]
   ·simp only [go_sem, hw3]
    refine again_intro (i + 1) ⟨by omega, hnx (by rw [hr, decide_eq_false h11, Bool.and_false]; rfl)⟩ (by omega) ?_
    simp only [go_sem]
    try trivial
theorem ok79 (p : Prf) (n : Int) : VCalls gz 79 [p.enc false, .lit (.int .i64 n)] none (fun y _ => y = .lit (.bool (p.ok n))) := by
 refine VCalls.go (nt := 69) (keep := [0, 1, 2, 4, 5, 6, 7, 15, 31, 33, 34, 35, 36, 67]) (muts := []) (mvs := []) [(9, .tree true (.take 0 (.take 1 (.take 2 (.take 3 (.take 4 (.take 5 (.take 6 (.take 7 (.take 8 (.take 9 (.take 10 (.take 11 (.take 12 (.take 13 (.take 14 (.take 15 (.take 16 (.take 17 (.take 18 (.take 19 (.take 20 (.take 21 (.take 22 (.take 24 (.all (.cons 23 (.all (.cons 25 (.take 26 (.take 27 .done)) .nil)) .nil)))))))))))))))))))))))))))] f79_at rfl (by kernel_rfl) rfl (by kernel_rfl) rfl (fun i h => by cases h) rfl ?_
 intro hok
 simp only [go_sem] at hok
 simp only [Tryz.f79, Func.code, Option.getD_some]
 simp only [go_sem]
 refine call_lend ?_
 simp only [go_sem]
 refine callN.eq (ok76 n) (by simp only [go_sem]) ?_
 simp only [go_sem]
 have hq1 := qrm_neg (n := n)
 have hq2 := qrm_pos (n := n)
 cases h : srv n
 ·simp only [go_sem, hq1, hq2, h, Prf.ok_srv h]
 simp only [go_sem, hq1, h]
 refine call_lend ?_
 simp only [go_sem]
 refine callN.eq (ok81 p) (by simp only [go_sem]) ?_
 simp only [go_sem]
 cases h1 : p.one
 rotate_left
 ·simp only [go_sem, hq2, h, Prf.ok_one h h1]
 simp only [go_sem]
 intro hm
 by_cases h4 : (p.bys.length : Int) < qrm n
 ·have : p.ok n = false := Prf.ok_len h1 (fun hl => by have := hl.1; omega)
  simp only [go_sem, eq_true h4, this]
 simp only [go_sem, h4]
 intro hm3 hm2
 by_cases h5 : (p.tags.length : Int) = (p.bys.length : Int)
 rotate_left
 ·have : p.ok n = false := Prf.ok_len h1 (fun hl => by have := hl.2; omega)
  simp only [go_sem, h5, this]
 have hl : p.len n := ⟨by omega, by omega⟩
 have hl2 := hl.2
 simp only [go_sem, eq_true h5]
 intro hm4
 refine vm_loopK (α := Nat) (fun i => [(1, .lit (.int .i64 n)), (2, .ptr true (p.enc false)), (4, .lit (.bool false)), (33, .lst false 1 (p.bys.map intA)), (34, .lit (.int .i64 p.bys.length)), (35, .lit (.int .i64 i))]) (fun i => i <= p.bys.length /\ ∀ j, j < i -> p.rnd n j = true) (fun i => p.bys.length - i) 0 ?_ ⟨by omega, fun j hj => by omega⟩ (by kernel_rfl) (fun _ => rfl) ?_
 ·simp only [go_sem]
  try trivial
 ·rintro i ⟨hi, he⟩ hk
  simp only [go_sem]
  first | refine branch_ndec (fun h6 => ?_) (fun h6 => ?_) | refine branch_dec (fun h6 => ?_) (fun h6 => ?_) | refine branch_nbool (fun h6 => ?_) (fun h6 => ?_) | refine branch_split (fun h6 => ?_) (fun h6 => ?_)
  rotate_left
  ·have : p.ok n = true := Prf.ok_all h hl (fun j hj => he j (by omega))
   simp only [go_sem, this]
  have hlt : i < p.bys.length := by omega
  have hlt2 : i < p.tags.length := by omega
  have h0 : (0 : Int) <= (i : Int) := by omega
  have h6b : (i : Int) < (p.tags.length : Int) := by omega
  have hw3 : IntKind.i64.wrap ((i : Int) + 1) = ((i + 1 : Nat) : Int) := by rw [wrap64 (by omega) (by omega)]; omega
  have hnx : p.rnd n i = true -> ∀ j, j < i + 1 -> p.rnd n j = true := fun hr j hj => by
   by_cases hji : j < i
   ·exact he j hji
   ·have : j = i := by omega
    subst this
    exact hr
  by_cases h7 : (0 : Int) < (i : Int)
  rotate_left
  ·have h7b : ¬ 0 < i := by omega
   simp only [go_sem, h7, h0, hlt, h6, hlt2, h6b]
   refine call_lend ?_
   simp only [go_sem]
   refine callN.eq (ok86 ⟨p.view, p.name, p.bys.getD i default, p.tags.getD i default⟩ n) (by simp only [go_sem]) ?_
   simp only [go_sem]
   cases hv : (Vot.mk p.view p.name (p.bys.getD i default) (p.tags.getD i default)).ok n
   ·simp only [go_sem, Prf.ok_bad h1 hlt (Prf.rnd_eq hv)]
   have hr := Prf.rnd_eq hv
   simp only [go_sem, hw3]
   refine again_intro (i + 1) ⟨by omega, hnx (by rw [hr]; simp [h7b])⟩ (by omega) ?_
   simp only [go_sem]
   try trivial
  ·have h7b : 0 < i := by omega
   have hw4 : IntKind.i64.wrap ((i : Int) - 1) = ((i - 1 : Nat) : Int) := by rw [wrap64 (by omega) (by omega)]; omega
   have h8 : ((i - 1 : Nat) : Int) < (p.bys.length : Int) := by omega
   have h9 : (0 : Int) <= ((i - 1 : Nat) : Int) := by omega
   have h10 : i - 1 < p.bys.length := by omega
   by_cases h11 : p.bys.getD i default <= p.bys.getD (i - 1) default
   ·have : p.ok n = false := Prf.ok_bad h1 hlt (by rw [Prf.rnd, decide_eq_true h7b, decide_eq_true h11]; exact Bool.and_false _)
    simp only [go_sem, h7, hw4, h0, h6, h8, h9, h10, hlt, h11, this]
   ·simp only [go_sem, h7, hw4, h0, h6, h8, h9, h10, hlt, h11, hlt2, h6b]
    refine call_lend ?_
    simp only [go_sem]
    refine callN.eq (ok86 ⟨p.view, p.name, p.bys.getD i default, p.tags.getD i default⟩ n) (by simp only [go_sem]) ?_
    simp only [go_sem]
    cases hv : (Vot.mk p.view p.name (p.bys.getD i default) (p.tags.getD i default)).ok n
    ·simp only [go_sem, Prf.ok_bad h1 hlt (Prf.rnd_eq hv)]
    have hr := Prf.rnd_eq hv
    simp only [go_sem, hw3]
    refine again_intro (i + 1) ⟨by omega, hnx (by rw [hr, decide_eq_false h11, Bool.and_false]; rfl)⟩ (by omega) ?_
    simp only [go_sem]
    try trivial
end Go.VS
