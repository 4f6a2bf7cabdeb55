/- VS: functions by the machine. -/
import Derived.Test.YtejhoajebbigbaaGreatDoorVz
set_option linter.unusedSimpArgs false
set_option linter.unusedVariables false
open Go.Proofs
set_option maxRecDepth 20000
namespace Go.VS
set_option maxHeartbeats 8000000 in
theorem ok3 (r : Rpl) (m : Msg) : VCalls gz 3 [r.enc false, m.enc false] none (fun y _ => y = .lit (.bool true)) := by
 refine VCalls.go (nt := 135) (keep := [0, 1, 2, 3, 4, 5, 6, 7, 8, 9, 10, 11, 12, 13, 14, 15, 16, 21, 26, 54, 59, 64, 84, 95, 100, 103, 121, 126, 131, 134]) (muts := []) (mvs := []) [(8, .ex false (.all (.cons 0 (.all (.cons 1 (.all (.cons 2 (.all (.cons 3 (.all (.cons 4 (.take 5 (.take 6 (.take 7 (.all (.cons 8 (.all (.cons 9 (.all (.cons 10 .done .nil)) .nil)) .nil))))) (.cons 8 (.all (.cons 4 (.take 5 (.take 6 (.take 7 (.all (.cons 9 (.all (.cons 10 .done .nil)) .nil))))) .nil)) .nil))) (.cons 8 (.all (.cons 3 (.all (.cons 4 (.take 5 (.take 6 (.take 7 (.all (.cons 9 (.all (.cons 10 .done .nil)) .nil))))) .nil)) .nil)) .nil))) (.cons 8 (.all (.cons 2 (.all (.cons 3 (.all (.cons 4 (.take 5 (.take 6 (.take 7 (.all (.cons 9 (.all (.cons 10 .done .nil)) .nil))))) .nil)) .nil)) .nil)) .nil))) (.cons 2 (.all (.cons 1 (.all (.cons 3 (.all (.cons 4 (.take 5 (.take 6 (.take 7 (.all (.cons 8 (.all (.cons 9 (.all (.cons 10 .done .nil)) .nil)) .nil))))) (.cons 8 (.all (.cons 4 (.take 5 (.take 6 (.take 7 (.all (.cons 9 (.all (.cons 10 .done .nil)) .nil))))) .nil)) .nil))) (.cons 8 (.all (.cons 3 (.all (.cons 4 (.take 5 (.take 6 (.take 7 (.all (.cons 9 (.all (.cons 10 .done .nil)) .nil))))) .nil)) .nil)) .nil))) (.cons 8 (.all (.cons 1 (.all (.cons 3 (.all (.cons 4 (.take 5 (.take 6 (.take 7 (.all (.cons 9 (.all (.cons 10 .done .nil)) .nil))))) .nil)) .nil)) .nil)) .nil))) (.cons 8 (.all (.cons 1 (.all (.cons 2 (.all (.cons 3 (.all (.cons 4 (.take 5 (.take 6 (.take 7 (.all (.cons 9 (.all (.cons 10 .done .nil)) .nil))))) .nil)) .nil)) .nil)) (.cons 2 (.all (.cons 1 (.all (.cons 3 (.all (.cons 4 (.take 5 (.take 6 (.take 7 (.all (.cons 9 (.all (.cons 10 .done .nil)) .nil))))) .nil)) .nil)) .nil)) .nil))) .nil)))) (.cons 2 (.all (.cons 0 (.all (.cons 1 (.all (.cons 3 (.all (.cons 4 (.take 5 (.take 6 (.take 7 (.all (.cons 8 (.all (.cons 9 (.all (.cons 10 .done .nil)) .nil)) .nil))))) (.cons 8 (.all (.cons 4 (.take 5 (.take 6 (.take 7 (.all (.cons 9 (.all (.cons 10 .done .nil)) .nil))))) .nil)) .nil))) (.cons 8 (.all (.cons 3 (.all (.cons 4 (.take 5 (.take 6 (.take 7 (.all (.cons 9 (.all (.cons 10 .done .nil)) .nil))))) .nil)) .nil)) .nil))) (.cons 8 (.all (.cons 1 (.all (.cons 3 (.all (.cons 4 (.take 5 (.take 6 (.take 7 (.all (.cons 9 (.all (.cons 10 .done .nil)) .nil))))) .nil)) .nil)) .nil)) .nil))) (.cons 8 (.all (.cons 0 (.all (.cons 1 (.all (.cons 3 (.all (.cons 4 (.take 5 (.take 6 (.take 7 (.all (.cons 9 (.all (.cons 10 .done .nil)) .nil))))) .nil)) .nil)) .nil)) .nil)) .nil))) (.cons 8 (.all (.cons 0 (.all (.cons 1 (.all (.cons 2 (.all (.cons 3 (.all (.cons 4 (.take 5 (.take 6 (.take 7 (.all (.cons 9 (.all (.cons 10 .done .nil)) .nil))))) .nil)) .nil)) .nil)) (.cons 2 (.all (.cons 1 (.all (.cons 3 (.all (.cons 4 (.take 5 (.take 6 (.take 7 (.all (.cons 9 (.all (.cons 10 .done .nil)) .nil))))) .nil)) .nil)) .nil)) .nil))) (.cons 2 (.all (.cons 0 (.all (.cons 1 (.all (.cons 3 (.all (.cons 4 (.take 5 (.take 6 (.take 7 (.all (.cons 9 (.all (.cons 10 .done .nil)) .nil))))) .nil)) .nil)) .nil)) .nil)) .nil))) .nil))))), (14, .tree true (.take 0 (.take 1 (.all (.cons 2 (.all (.cons 3 (.take 4 .done) .nil)) .nil))))), (16, .tree true (.take 0 (.take 1 (.all (.cons 2 (.all (.cons 3 (.take 4 .done) .nil)) .nil))))), (35, .ex false (.all (.cons 0 (.all (.cons 1 (.all (.cons 2 (.all (.cons 3 (.all (.cons 4 (.take 5 (.take 6 (.take 7 (.all (.cons 8 (.all (.cons 9 (.all (.cons 10 .done .nil)) .nil)) .nil))))) (.cons 8 (.all (.cons 4 (.take 5 (.take 6 (.take 7 (.all (.cons 9 (.all (.cons 10 .done .nil)) .nil))))) .nil)) .nil))) (.cons 8 (.all (.cons 3 (.all (.cons 4 (.take 5 (.take 6 (.take 7 (.all (.cons 9 (.all (.cons 10 .done .nil)) .nil))))) .nil)) .nil)) .nil))) (.cons 8 (.all (.cons 2 (.all (.cons 3 (.all (.cons 4 (.take 5 (.take 6 (.take 7 (.all (.cons 9 (.all (.cons 10 .done .nil)) .nil))))) .nil)) .nil)) .nil)) .nil))) (.cons 2 (.all (.cons 1 (.all (.cons 3 (.all (.cons 4 (.take 5 (.take 6 (.take 7 (.all (.cons 8 (.all (.cons 9 (.all (.cons 10 .done .nil)) .nil)) .nil))))) (.cons 8 (.all (.cons 4 (.take 5 (.take 6 (.take 7 (.all (.cons 9 (.all (.cons 10 .done .nil)) .nil))))) .nil)) .nil))) (.cons 8 (.all (.cons 3 (.all (.cons 4 (.take 5 (.take 6 (.take 7 (.all (.cons 9 (.all (.cons 10 .done .nil)) .nil))))) .nil)) .nil)) .nil))) (.cons 8 (.all (.cons 1 (.all (.cons 3 (.all (.cons 4 (.take 5 (.take 6 (.take 7 (.all (.cons 9 (.all (.cons 10 .done .nil)) .nil))))) .nil)) .nil)) .nil)) .nil))) (.cons 8 (.all (.cons 1 (.all (.cons 2 (.all (.cons 3 (.all (.cons 4 (.take 5 (.take 6 (.take 7 (.all (.cons 9 (.all (.cons 10 .done .nil)) .nil))))) .nil)) .nil)) .nil)) (.cons 2 (.all (.cons 1 (.all (.cons 3 (.all (.cons 4 (.take 5 (.take 6 (.take 7 (.all (.cons 9 (.all (.cons 10 .done .nil)) .nil))))) .nil)) .nil)) .nil)) .nil))) .nil)))) (.cons 2 (.all (.cons 0 (.all (.cons 1 (.all (.cons 3 (.all (.cons 4 (.take 5 (.take 6 (.take 7 (.all (.cons 8 (.all (.cons 9 (.all (.cons 10 .done .nil)) .nil)) .nil))))) (.cons 8 (.all (.cons 4 (.take 5 (.take 6 (.take 7 (.all (.cons 9 (.all (.cons 10 .done .nil)) .nil))))) .nil)) .nil))) (.cons 8 (.all (.cons 3 (.all (.cons 4 (.take 5 (.take 6 (.take 7 (.all (.cons 9 (.all (.cons 10 .done .nil)) .nil))))) .nil)) .nil)) .nil))) (.cons 8 (.all (.cons 1 (.all (.cons 3 (.all (.cons 4 (.take 5 (.take 6 (.take 7 (.all (.cons 9 (.all (.cons 10 .done .nil)) .nil))))) .nil)) .nil)) .nil)) .nil))) (.cons 8 (.all (.cons 0 (.all (.cons 1 (.all (.cons 3 (.all (.cons 4 (.take 5 (.take 6 (.take 7 (.all (.cons 9 (.all (.cons 10 .done .nil)) .nil))))) .nil)) .nil)) .nil)) .nil)) .nil))) (.cons 8 (.all (.cons 0 (.all (.cons 1 (.all (.cons 2 (.all (.cons 3 (.all (.cons 4 (.take 5 (.take 6 (.take 7 (.all (.cons 9 (.all (.cons 10 .done .nil)) .nil))))) .nil)) .nil)) .nil)) (.cons 2 (.all (.cons 1 (.all (.cons 3 (.all (.cons 4 (.take 5 (.take 6 (.take 7 (.all (.cons 9 (.all (.cons 10 .done .nil)) .nil))))) .nil)) .nil)) .nil)) .nil))) (.cons 2 (.all (.cons 0 (.all (.cons 1 (.all (.cons 3 (.all (.cons 4 (.take 5 (.take 6 (.take 7 (.all (.cons 9 (.all (.cons 10 .done .nil)) .nil))))) .nil)) .nil)) .nil)) .nil)) .nil))) .nil)))))] f3_at rfl (by kernel_rfl) rfl (by kernel_rfl) rfl (fun i h => by cases h) rfl ?_
 intro hok
 simp only [go_sem] at hok
 simp only [Tryz.f3, Func.code, Option.getD_some]
 simp only [go_sem]
 refine call_lend ?_
 simp only [go_sem]
 refine callN.eq (ok4 r 1048576 ⟨by omega, by omega⟩) (by simp only [go_sem]) ?_
 simp only [go_sem]
 by_cases h1 : (r.sz : Int) <= 1048576
 rotate_left
 ·have e : szR r.sz 1048576 = -1 := szR_lt (by omega)
  rw [e]
  simp only [go_sem]
  try trivial
 have e : szR r.sz 1048576 = 1048576 - r.sz := szR_le h1
 have n1 : ¬ ((1048576 : Int) - r.sz < 0) := by omega
 rw [e]
 simp only [go_sem, n1]
 refine call_lend ?_
 simp only [go_sem]
 refine callN.eq (ok5 m (1048576 - r.sz) ⟨by omega, by omega⟩) (by simp only [go_sem]) ?_
 simp only [go_sem]
 by_cases h2 : (m.sz : Int) <= 1048576 - r.sz
 rotate_left
 ·have e : szR m.sz (1048576 - r.sz) = -1 := szR_lt (by omega)
  rw [e]
  simp only [go_sem]
  try trivial
 have e2 : szR m.sz (1048576 - r.sz) = 1048576 - r.sz - m.sz := szR_le h2
 have n2 : ¬ ((1048576 : Int) - r.sz - m.sz < 0) := by omega
 rw [e2]
 simp only [go_sem, n2]
 have hz : r.sz <= 1048576 := by omega
 have hy : m.sz <= 1048576 := by omega
 have hh := Rpl.hold_of hz
 have cs := ok6 r hh m
 have ci := ok9 r hh m
 have m0 := Rpl.k5_le hz 1
 have m1 := Rpl.hear_k5 (r := r) (m := m) (by omega) 1
 have m2 := Rpl.hear_mT r m
 have m3 : m.mw0 <= 1048576 := by
  have q1 : m.sz = m.block.proof.sz + szL ByteArray.size m.block.moves + m.proof.sz := rfl
  have q2 : m.mw0 = m.block.proof.sz + m.block.moves.length + m.proof.sz := rfl
  simp only [szL] at q1
  omega
 obtain ⟨A, hA⟩ : ∃ A, A = (r.hear m).1 := ⟨_, rfl⟩
 obtain ⟨U, hU⟩ : ∃ U, U = (r.hear m).2 := ⟨_, rfl⟩
 rw [<- hA, <- hU] at cs ci
 rw [<- hA] at m1
 rw [<- hU] at m2
 clear hA hU
 refine draw_mk (L := ?La) ?h1a ?h2a
 case h1a =>
  simp only [go_sem]
  repeat' refine And.intro ?_ ?_
  all_goals
   refine call_lend ?_
   simp only [go_sem]
   refine callN.eq (ok7 r hz) (by simp only [go_sem]) ?_
   simp only [go_sem]
   repeat' refine And.intro ?_ ?_
   all_goals
    refine call_lend ?_
    simp only [go_sem]
    refine callN.eq (ok8 m hy) (by simp only [go_sem]) ?_
    simp only [go_sem]
    repeat' refine And.intro ?_ ?_
    all_goals
     refine call_lend ?_
     simp only [go_sem]
     refine callN.eq (cs) (by simp only [go_sem]) ?_
     simp only [go_sem]
     repeat' refine And.intro ?_ ?_
     all_goals first | with_reducible exact rfl | exact mkE_perm (by kernel_rfl) | trace_state
 simp only [go_sem]
 refine call_lend ?_
 simp only [go_sem]
 refine callN.eq (ok7 r hz) (by simp only [go_sem]) ?_
 simp only [go_sem]
 refine call_lend ?_
 simp only [go_sem]
 refine callN.eq (ok8 m hy) (by simp only [go_sem]) ?_
 simp only [go_sem]
 refine call_lend ?_
 simp only [go_sem]
 refine callN.eq (ci) (by simp only [go_sem]) ?_
 simp only [go_sem]
 refine call_lend ?_
 simp only [go_sem]
 refine callN.eq (ok10 A A) (by simp only [go_sem]) ?_
 simp only [go_sem]
 refine call_lend ?_
 simp only [go_sem]
 refine callN.eq (ok11 U U) (by simp only [go_sem]) ?_
 simp only [go_sem]
 refine call_lend ?_
 simp only [go_sem]
 refine callN.eq (ok7 r hz) (by simp only [go_sem]) ?_
 simp only [go_sem]
 refine call_lend ?_
 simp only [go_sem]
 refine callN.eq (ok10 r r) (by simp only [go_sem]) ?_
 simp only [go_sem]
 refine call_lend ?_
 simp only [go_sem]
 refine callN.eq (ok8 m hy) (by simp only [go_sem]) ?_
 simp only [go_sem]
 refine call_lend ?_
 simp only [go_sem]
 refine callN.eq (ok12 m m) (by simp only [go_sem]) ?_
 simp only [go_sem]
 refine call_give 0 8 [.idx 0] rfl rfl rfl (by simp only [go_sem]; rfl) (by simp only [go_sem, List.getElem?_cons_zero, List.getElem?_cons_succ]) (by simp only [go_sem]) (by simp only [go_sem]) (by simp only [go_sem]) ?_
 simp only [go_sem, List.set]
 refine callW.eq (ok13 r 1 (by omega) (by omega)) ?_
 simp only [go_sem]
 refine ⟨Rpl.mkR_like r 1, ?_⟩
 refine call_give 0 9 [.idx 0] rfl rfl rfl (by simp only [go_sem]; rfl) (by simp only [go_sem, List.getElem?_cons_zero, List.getElem?_cons_succ]) (by simp only [go_sem]) (by simp only [go_sem]) (by simp only [go_sem]) ?_
 simp only [go_sem, List.set]
 refine callW.eq (ok14 m (r.k5 1) (by omega) (by omega)) ?_
 simp only [go_sem]
 refine ⟨⟨rfl, rfl, rfl, rfl, ⟨rfl, rfl, ⟨rfl, rfl, iM_len _ _, iM_len _ _⟩, sM_len _ _, rfl⟩, ⟨rfl, rfl, rfl, rfl⟩, ⟨rfl, rfl, iM_len _ _, iM_len _ _⟩⟩, ?_⟩
 have n3 : ¬ (r.k5 1 + (m.mw0 : Int) < 0) := by omega
 simp only [go_sem, n3]
 refine call_lend ?_
 simp only [go_sem]
 refine callN.eq (ok10 A A) (by simp only [go_sem]) ?_
 simp only [go_sem]
 refine call_lend ?_
 simp only [go_sem]
 refine callN.eq (ok11 U U) (by simp only [go_sem]) ?_
 simp only [go_sem]
 refine call_give 0 10 [.idx 0] rfl rfl rfl (by simp only [go_sem]; rfl) (by simp only [go_sem, List.getElem?_cons_zero, List.getElem?_cons_succ]) (by simp only [go_sem]) (by simp only [go_sem]) (by simp only [go_sem]) ?_
 simp only [go_sem, List.set]
 refine callW.eq (ok13 A 1 (by omega) (by omega)) ?_
 simp only [go_sem]
 refine ⟨Rpl.mkR_like A 1, ?_⟩
 refine call_give 0 11 [] rfl rfl rfl (by simp only [go_sem]; rfl) (by simp only [go_sem, List.getElem?_cons_zero, List.getElem?_cons_succ]) (by simp only [go_sem]) (by simp only [go_sem]) (by simp only [go_sem]) ?_
 simp only [go_sem, List.set]
 refine callW.eq (okI15 U (A.k5 1) (by omega) (by omega)) ?_
 simp only [go_sem]
 refine ⟨mM_len _ _, ?_⟩
 have n4 : ¬ (A.k5 1 < 0) := by omega
 have n5 : ¬ (A.k5 1 + (mT U : Int) < 0) := by omega
 refine call_lend ?_
 simp only [go_sem]
 refine callN.eq (ok16 A 1 (by omega) (by omega)) (by simp only [go_sem]) ?_
 simp only [go_sem]
 simp only [go_sem, n4]
 refine call_lend ?_
 simp only [go_sem]
 refine callN.eq (okI17 U (A.k5 1) (by omega) (by omega)) (by simp only [go_sem]) ?_
 simp only [go_sem]
 try simp only [go_sem, n5, bne_self_eq_false]
 refine draw_mk (L := ?Lb) ?h1b ?h2b
 case h1b =>
  simp only [go_sem]
  repeat' refine And.intro ?_ ?_
  all_goals
   refine call_lend ?_
   simp only [go_sem]
   refine callN.eq (ok7 r hz) (by simp only [go_sem]) ?_
   simp only [go_sem]
   repeat' refine And.intro ?_ ?_
   all_goals
    refine call_lend ?_
    simp only [go_sem]
    refine callN.eq (ok8 m hy) (by simp only [go_sem]) ?_
    simp only [go_sem]
    repeat' refine And.intro ?_ ?_
    all_goals
     refine call_lend ?_
     simp only [go_sem]
     refine callN.eq (ci) (by simp only [go_sem]) ?_
     simp only [go_sem]
     repeat' refine And.intro ?_ ?_
     all_goals first | with_reducible exact rfl | exact mkE_perm (by kernel_rfl) | trace_state
 simp only [go_sem]
 refine call_lend ?_
 simp only [go_sem]
 refine callN.eq (ok10 A A) (by simp only [go_sem]) ?_
 simp only [go_sem]
 refine call_lend ?_
 simp only [go_sem]
 refine callN.eq (ok11 U U) (by simp only [go_sem]) ?_
 simp only [go_sem]
 refine call_lend ?_
 simp only [go_sem]
 refine callN.eq (ok16 A 1 (by omega) (by omega)) (by simp only [go_sem]) ?_
 simp only [go_sem]
 simp only [go_sem, n4]
 refine call_lend ?_
 simp only [go_sem]
 refine callN.eq (okI17 U (A.k5 1) (by omega) (by omega)) (by simp only [go_sem]) ?_
 simp only [go_sem]
 try simp only [go_sem, n5, bne_self_eq_false]
 try trivial
end Go.VS
