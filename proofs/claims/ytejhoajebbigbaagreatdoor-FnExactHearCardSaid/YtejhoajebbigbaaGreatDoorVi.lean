/- VS: functions by the machine. -/
import Derived.Test.YtejhoajebbigbaaGreatDoorVh
set_option linter.unusedSimpArgs false
set_option linter.unusedVariables false
open Go.Proofs
set_option maxRecDepth 20000
namespace Go.VS
theorem f98_at : gz.P.funcs[98]? = some Tryz.f98 := by
 have h : Tryz.prog.funcs[98]? = some Tryz.f98 := by kernel_rfl
 exact h
theorem f134_at : gz.P.funcs[134]? = some Tryz.f134 := by
 have h : Tryz.prog.funcs[134]? = some Tryz.f134 := by kernel_rfl
 exact h
theorem f63_at : gz.P.funcs[63]? = some Tryz.f63 := by
 have h : Tryz.prog.funcs[63]? = some Tryz.f63 := by kernel_rfl
 exact h
theorem f109_at : gz.P.funcs[109]? = some Tryz.f109 := by
 have h : Tryz.prog.funcs[109]? = some Tryz.f109 := by kernel_rfl
 exact h
def mvB (s : ByteArray) : Bool := decide (60 < (s.size : Int))
def movesOk (l : List ByteArray) : Bool := decide (l.length <= 10) && !l.any mvB
theorem movesOk_bad {l : List ByteArray} {i : Nat} (hi : i < l.length) (h : 60 < ((l.getD i default).size : Int)) : movesOk l = false := by
 have : l.any mvB = true := List.any_eq_true.2 ⟨_, getD_mem hi, by simpa [mvB] using h⟩
 simp [movesOk, this]
theorem ok98 (l : List ByteArray) : VCalls gz 98 [.lst false 1 (l.map strA)] none (fun y _ => y = .lit (.bool (movesOk l))) := by
 refine VCalls.go (nt := 19) (keep := [0, 2, 3, 6, 10, 18]) (muts := []) (mvs := []) [] f98_at rfl (by kernel_rfl) rfl (by kernel_rfl) rfl (fun i h => by cases h) rfl ?_
 intro hok
 simp only [go_sem] at hok
 simp only [Tryz.f98, Func.code, Option.getD_some]
 simp only [go_sem]
 intro hm
 first | refine branch_ndec (fun h1 => ?_) (fun h1 => ?_) | refine branch_dec (fun h1 => ?_) (fun h1 => ?_) | refine branch_nbool (fun h1 => ?_) (fun h1 => ?_) | refine branch_split (fun h1 => ?_) (fun h1 => ?_)
 ·have : movesOk l = false := by simp only [movesOk, decide_eq_false (show ¬ l.length <= 10 by omega), Bool.false_and]
  simp only [go_sem, this]
 simp only [go_sem]
 refine vm_loopK (α := Nat) (fun i => [(0, .lst false 1 (l.map strA)), (2, .lit (.bool false)), (3, .lit (.int .i64 i))]) (fun i => i <= l.length /\ ∀ j, j < i -> ¬ 60 < ((l.getD j default).size : Int)) (fun i => l.length - i) 0 ?_ ⟨by omega, fun j hj => by omega⟩ (by kernel_rfl) (fun _ => rfl) ?_
 ·simp only [go_sem]
  try trivial
 ·rintro i ⟨hi, he⟩ hk
  simp only [go_sem]
  intro _
  first | refine branch_ndec (fun h6 => ?_) (fun h6 => ?_) | refine branch_dec (fun h6 => ?_) (fun h6 => ?_) | refine branch_nbool (fun h6 => ?_) (fun h6 => ?_) | refine branch_split (fun h6 => ?_) (fun h6 => ?_)
  rotate_left
  ·have : movesOk l = true := by
    have h2 : l.any mvB = false := List.any_eq_false.2 fun x hx => by
     obtain ⟨j, hj, rfl⟩ := List.mem_iff_getElem.1 hx
     have := he j (by omega)
     simpa [mvB, List.getD, hj] using this
    simp only [movesOk, h2, decide_eq_true (show l.length <= 10 by omega)]
    rfl
   simp only [go_sem, this]
  have hlt : i < l.length := by omega
  have h0 : (0 : Int) <= (i : Int) := by omega
  have hw3 : IntKind.i64.wrap ((i : Int) + 1) = ((i + 1 : Nat) : Int) := by rw [wrap64 (by omega) (by omega)]; omega
  simp only [go_sem, h0, hlt, h6]
  intro _
  first | refine branch_ndec (fun h7 => ?_) (fun h7 => ?_) | refine branch_dec (fun h7 => ?_) (fun h7 => ?_) | refine branch_nbool (fun h7 => ?_) (fun h7 => ?_) | refine branch_split (fun h7 => ?_) (fun h7 => ?_)
  ·simp only [go_sem, movesOk_bad hlt h7]
  ·simp only [go_sem, hw3]
   refine again_intro (i + 1) ⟨by omega, fun j hj => ?_⟩ (by omega) ?_
   ·by_cases hji : j < i
    ·exact he j hji
    ·have : j = i := by omega
     subst this
     exact h7
   ·simp only [go_sem]
    try trivial
theorem ok134 (s : ByteArray) : VCalls gz 134 [strA s] none (fun y _ => y = .lit (.bool (mvB s))) := by
 refine VCalls.go (nt := 6) (keep := [0, 2]) (muts := []) (mvs := []) [] f134_at rfl (by kernel_rfl) rfl (by kernel_rfl) rfl (fun i h => by cases h) rfl ?_
 intro hok
 simp only [go_sem] at hok
 simp only [Tryz.f134, Func.code, Option.getD_some]
 simp only [go_sem]
 intro hm
 try rfl
def Blk.ok (b : Blk) (n : Int) : Bool := b.proof.ok n && (decide (1 <= b.view /\ b.view <= 100000) && (decide (b.proof.view < b.view) && (decide (b.parent = b.proof.name) && (decide (b.bY = b.view.tmod n) && movesOk b.moves))))
set_option maxHeartbeats 2000000 in
theorem ok63 (b : Blk) (n : Int) : VCalls gz 63 [b.enc false, .lit (.int .i64 n)] none (fun y _ => y = .lit (.bool (b.ok n))) := by
 refine VCalls.go (nt := 48) (keep := [0, 1, 2, 4]) (muts := []) (mvs := []) [(1, .tree true (.take 0 (.all (.cons 1 (.take 2 (.take 3 (.take 4 (.all (.cons 5 (.take 6 (.take 7 (.take 8 (.take 9 (.take 10 (.take 11 (.take 12 (.take 13 (.take 14 (.take 15 (.take 16 (.take 17 (.take 18 (.take 19 (.all (.cons 20 (.take 21 (.take 22 (.take 23 (.take 24 (.take 25 (.take 26 (.take 27 (.take 28 (.take 29 (.take 30 (.take 31 (.take 32 (.take 33 (.take 34 (.take 35 (.take 36 (.take 37 (.take 38 (.take 39 (.take 40 (.all (.cons 41 (.take 42 (.all (.cons 43 .done .nil))) .nil)))))))))))))))))))))) .nil)))))))))))))))) .nil))))) .nil))))] f63_at rfl (by kernel_rfl) rfl (by kernel_rfl) rfl (fun i h => by cases h) rfl ?_
 intro hok
 simp only [go_sem] at hok
 simp only [Tryz.f63, Func.code, Option.getD_some]
 simp only [go_sem]
 refine call_lend ?_
 simp only [go_sem]
 refine callN.eq (ok59 n) (by simp only [go_sem]) ?_
 simp only [go_sem]
 cases h : srv n
 ·have : b.ok n = false := by simp only [Blk.ok, Prf.ok_srv h, Bool.false_and]
  simp only [go_sem, this]
 have hn := srv_iff.1 h
 simp only [go_sem]
 refine call_lend ?_
 simp only [go_sem]
 refine callN.eq (ok60 b.view 1 100000) (by simp only [go_sem]) ?_
 simp only [go_sem]
 by_cases h2 : 1 <= b.view /\ b.view <= 100000
 rotate_left
 ·have : b.ok n = false := by simp only [Blk.ok, eq_false h2, decide_false, Bool.false_and, Bool.and_false]
  simp only [go_sem, eq_false h2, this]
 have hr : 0 <= b.view.tmod n /\ b.view.tmod n <= 100000 := by
  rw [Int.tmod_eq_emod_of_nonneg (by omega)]
  rcases hn with rfl | rfl | rfl <;> omega
 have hw : IntKind.i64.wrap (b.view.tmod n) = b.view.tmod n := wrap64 (by omega) (by omega)
 have hnz : ¬ n = 0 := by omega
 simp only [go_sem, eq_true h2, hw, hnz]
 by_cases h3 : b.bY = b.view.tmod n
 rotate_left
 ·have : b.ok n = false := by simp only [Blk.ok, eq_false h3, decide_false, Bool.false_and, Bool.and_false]
  simp only [go_sem, eq_false h3, this]
 simp only [go_sem, eq_true h3]
 refine call_lend ?_
 simp only [go_sem]
 refine callN.eq (ok62 b.proof n) (by simp only [go_sem]) ?_
 simp only [go_sem]
 cases h4 : b.proof.ok n
 ·have : b.ok n = false := by simp only [Blk.ok, h4, Bool.false_and]
  simp only [go_sem, this]
 simp only [go_sem]
 by_cases h5 : b.proof.view < b.view
 rotate_left
 ·have : b.ok n = false := by simp only [Blk.ok, eq_false h5, decide_false, Bool.false_and, Bool.and_false]
  simp only [go_sem, eq_false h5, this]
 simp only [go_sem, eq_true h5]
 by_cases h6 : b.parent = b.proof.name
 rotate_left
 ·have : b.ok n = false := by simp only [Blk.ok, eq_false h6, decide_false, Bool.false_and, Bool.and_false]
  simp only [go_sem, eq_false h6, this]
 simp only [go_sem, eq_true h6]
 refine call_lend ?_
 simp only [go_sem]
 refine callN.eq (ok98 b.moves) (by simp only [go_sem]) ?_
 simp only [go_sem]
 simp only [Blk.ok, h4, eq_true h2, eq_true h3, eq_true h5, eq_true h6, decide_true, Bool.true_and]
set_option maxHeartbeats 2000000 in
theorem ok109 (b : Blk) (n : Int) : VCalls gz 109 [b.enc false, .lit (.int .i64 n)] none (fun y _ => y = .lit (.bool (b.ok n))) := by
 refine VCalls.go (nt := 51) (keep := [0, 1, 2, 4]) (muts := []) (mvs := []) [(1, .tree true (.take 0 (.take 1 (.take 2 (.all (.cons 3 (.take 4 (.take 5 (.take 6 (.all (.cons 7 (.take 8 (.take 9 (.take 10 (.take 11 (.take 12 (.take 13 (.take 14 (.take 15 (.take 16 (.take 17 (.take 18 (.take 19 (.take 20 (.take 21 (.take 22 (.take 23 (.take 24 (.take 25 (.take 26 (.take 27 (.take 28 (.take 29 (.take 30 (.take 31 (.take 32 (.take 33 (.take 34 (.take 35 (.take 36 (.take 37 (.take 38 (.take 39 (.take 40 (.take 41 (.take 42 (.all (.cons 43 (.take 44 (.take 45 (.all (.cons 46 .done .nil)))) .nil))))))))))))))))))))))))))))))))))))) .nil))))) .nil))))))] f109_at rfl (by kernel_rfl) rfl (by kernel_rfl) rfl (fun i h => by cases h) rfl ?_
 intro hok
 simp only [go_sem] at hok
 simp only [Tryz.f109, Func.code, Option.getD_some]
 simp only [go_sem]
 refine call_lend ?_
 simp only [go_sem]
 refine callN.eq (ok79 b.proof n) (by simp only [go_sem]) ?_
 simp only [go_sem]
 cases h4 : b.proof.ok n
 ·have : b.ok n = false := by simp only [Blk.ok, h4, Bool.false_and]
  simp only [go_sem, this]
 have hn := srv_iff.1 (Prf.ok_cases h4).1
 simp only [go_sem]
 refine call_lend ?_
 simp only [go_sem]
 refine callN.eq (ok78 b.view) (by simp only [go_sem]) ?_
 simp only [go_sem]
 by_cases h2 : 1 <= b.view /\ b.view <= 100000
 rotate_left
 ·have : b.ok n = false := by simp only [Blk.ok, eq_false h2, decide_false, Bool.false_and, Bool.and_false]
  simp only [go_sem, eq_false h2, this]
 have hr : 0 <= b.view.tmod n /\ b.view.tmod n <= 100000 := by
  rw [Int.tmod_eq_emod_of_nonneg (by omega)]
  rcases hn with rfl | rfl | rfl <;> omega
 have hw : IntKind.i64.wrap (b.view.tmod n) = b.view.tmod n := wrap64 (by omega) (by omega)
 have hnz : ¬ n = 0 := by omega
 simp only [go_sem, eq_true h2]
 by_cases h5 : b.proof.view < b.view
 rotate_left
 ·have : b.ok n = false := by simp only [Blk.ok, eq_false h5, decide_false, Bool.false_and, Bool.and_false]
  simp only [go_sem, eq_false h5, this]
 simp only [go_sem, eq_true h5]
 by_cases h6 : b.parent = b.proof.name
 rotate_left
 ·have : b.ok n = false := by simp only [Blk.ok, eq_false h6, decide_false, Bool.false_and, Bool.and_false]
  simp only [go_sem, eq_false h6, this]
 simp only [go_sem, eq_true h6, hw, hnz]
 by_cases h3 : b.bY = b.view.tmod n
 rotate_left
 ·have : b.ok n = false := by simp only [Blk.ok, eq_false h3, decide_false, Bool.false_and, Bool.and_false]
  simp only [go_sem, eq_false h3, this]
 simp only [go_sem, eq_true h3]
 intro hm
 by_cases h7 : (b.moves.length : Int) <= 10
 rotate_left
 ·have : b.ok n = false := by simp only [Blk.ok, movesOk, decide_eq_false (show ¬ b.moves.length <= 10 by omega), Bool.false_and, Bool.and_false]
  simp only [go_sem, h7, this]
 simp only [go_sem, h7]
 refine call_lend ?_
 simp only [go_sem]
 refine callN.eq (ok133 b.moves 134 [] mvB rfl rfl (fun x _ => ok134 x)) (by simp only [go_sem]) ?_
 simp only [go_sem]
 simp only [Blk.ok, movesOk, h4, eq_true h2, eq_true h3, eq_true h5, eq_true h6, decide_eq_true (show b.moves.length <= 10 by omega), decide_true, Bool.true_and]
end Go.VS
