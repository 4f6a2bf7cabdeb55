/- VS: functions by the machine. -/
import Derived.Test.YtbpjfoaafgmeaaaGreatDoorVq
import Derived.Test.YtbpjfoaafgmeaaaGreatDoorVp
import Derived.Test.YtbpjfoaafgmeaaaGreatDoorVh
set_option linter.unusedSimpArgs false
set_option linter.unusedVariables false
open Go.Proofs
set_option maxRecDepth 20000
namespace Go.VS
theorem f12_at : gz.P.funcs[12]? = some Tryz.f12 := by
  have h : Tryz.prog.funcs[12]? = some Tryz.f12 := by kernel_rfl
  exact h
theorem Rpl.okI_hd {r : Rpl} (h : r.hd = false) : r.okI = false := by simp only [Rpl.okI, h, Bool.false_and]
theorem Rpl.okI_hd2 {r : Rpl} (h : r.hd2 = false) : r.okI = false := by simp only [Rpl.okI, h, Bool.false_and, Bool.and_false]
theorem Rpl.pty_len (r : Rpl) : r.pty.names.length = r.pty.r.blocks.length := by simp [Rpl.pty]
set_option maxHeartbeats 4000000 in
theorem ok12 (r : Rpl) (hr : r.hold) : VCalls gz 12 [r.enc false] none (fun y _ => y = .lit (.bool r.okI)) := by
  refine VCalls.go (nt := 104) (keep := [0, 1, 2, 3, 40, 64, 91]) (muts := []) (mvs := []) [] f12_at rfl (by kernel_rfl) rfl (by kernel_rfl) rfl (fun i h => by cases h) rfl ?_
  intro hok
  simp only [go_sem] at hok
  simp only [Tryz.f12, Func.code, Option.getD_some]
  simp only [go_sem]
  refine call_lend ?_
  simp only [go_sem]
  refine callN.eq (ok51 r.n) (by simp only [go_sem]) ?_
  simp only [go_sem]
  cases h : srv r.n
  · simp only [go_sem, qrm_neg, h, Rpl.okI_hd (r := r) (by simp only [Rpl.hd, h, Bool.false_and])]
  have hn := srv_iff.1 h
  have hw : IntKind.i64.wrap (r.n - 1) = r.n - 1 := wrap64 (by omega) (by omega)
  simp only [go_sem, qrm_neg, h, hw]
  refine call_lend ?_
  simp only [go_sem]
  refine callN.eq (ok52 r.id 0 (r.n - 1)) (by simp only [go_sem]) ?_
  simp only [go_sem]
  by_cases h2 : 0 ≤ r.id ∧ r.id ≤ r.n - 1
  rotate_left
  · simp only [go_sem, eq_false h2, Rpl.okI_hd (r := r) (by simp only [Rpl.hd, eq_false h2, decide_false, Bool.false_and, Bool.and_false])]
  simp only [go_sem, eq_true h2]
  refine call_lend ?_
  simp only [go_sem]
  refine callN.eq (ok53 r.view) (by simp only [go_sem]) ?_
  simp only [go_sem]
  by_cases h3 : 1 ≤ r.view ∧ r.view ≤ 100000
  rotate_left
  · simp only [go_sem, eq_false h3, Rpl.okI_hd (r := r) (by simp only [Rpl.hd, eq_false h3, decide_false, Bool.false_and, Bool.and_false])]
  simp only [go_sem, eq_true h3]
  refine call_lend ?_
  simp only [go_sem]
  refine callN.eq (ok52 r.voted 0 100000) (by simp only [go_sem]) ?_
  simp only [go_sem]
  by_cases h4 : 0 ≤ r.voted ∧ r.voted ≤ 100000
  rotate_left
  · simp only [go_sem, eq_false h4, Rpl.okI_hd (r := r) (by simp only [Rpl.hd, eq_false h4, decide_false, Bool.false_and, Bool.and_false])]
  simp only [go_sem, eq_true h4]
  refine call_lend ?_
  simp only [go_sem]
  refine callN.eq (ok52 r.locked 0 100000) (by simp only [go_sem]) ?_
  simp only [go_sem]
  by_cases h5 : 0 ≤ r.locked ∧ r.locked ≤ 100000
  rotate_left
  · simp only [go_sem, eq_false h5, Rpl.okI_hd (r := r) (by simp only [Rpl.hd, eq_false h5, decide_false, Bool.false_and, Bool.and_false])]
  simp only [go_sem, eq_true h5]
  refine call_lend ?_
  simp only [go_sem]
  refine callN.eq (ok52 r.proposed 0 100000) (by simp only [go_sem]) ?_
  simp only [go_sem]
  by_cases h6 : 0 ≤ r.proposed ∧ r.proposed ≤ 100000
  rotate_left
  · simp only [go_sem, eq_false h6, Rpl.okI_hd (r := r) (by simp only [Rpl.hd, eq_false h6, decide_false, Bool.false_and, Bool.and_false])]
  simp only [go_sem, eq_true h6]
  refine call_lend ?_
  simp only [go_sem]
  refine callN.eq (ok54 r.high r.n) (by simp only [go_sem]) ?_
  simp only [go_sem]
  cases h7 : r.high.ok r.n
  · simp only [go_sem, Rpl.okI_hd2 (r := r) (by simp only [Rpl.hd2, h7, Bool.false_and])]
  simp only [go_sem]
  intro hm1
  by_cases h8 : 60 < (r.blocks.length : Int)
  · simp only [go_sem, eq_true h8, Rpl.okI_hd2 (r := r) (by simp only [Rpl.hd2, decide_eq_false (show ¬ r.blocks.length ≤ 60 by omega), Bool.false_and, Bool.and_false])]
  simp only [go_sem, h8]
  intro hm2
  by_cases h9 : 60 < (r.votes.length : Int)
  · simp only [go_sem, eq_true h9, Rpl.okI_hd2 (r := r) (by simp only [Rpl.hd2, decide_eq_false (show ¬ r.votes.length ≤ 60 by omega), Bool.false_and, Bool.and_false])]
  simp only [go_sem, h9]
  intro hm3
  by_cases h10 : 30 < (r.news.length : Int)
  · simp only [go_sem, eq_true h10, Rpl.okI_hd2 (r := r) (by simp only [Rpl.hd2, decide_eq_false (show ¬ r.news.length ≤ 30 by omega), Bool.false_and, Bool.and_false])]
  simp only [go_sem, h10]
  have hhd : r.hd = true := by simp only [Rpl.hd, h, decide_eq_true h2, decide_eq_true h3, decide_eq_true h4, decide_eq_true h5, decide_eq_true h6, Bool.and_self]
  have hhd2 : r.hd2 = true := by simp only [Rpl.hd2, h7, decide_eq_true (show r.blocks.length ≤ 60 by omega), decide_eq_true (show r.votes.length ≤ 60 by omega), decide_eq_true (show r.news.length ≤ 30 by omega), Bool.and_self]
  refine call_lend ?_
  simp only [go_sem]
  refine callN.eq (ok55 r hr) (by simp only [go_sem]) ?_
  simp only [go_sem]
  refine call_lend ?_
  simp only [go_sem]
  refine callN.eq (ok56 r.pty (Rpl.pty_len r)) (by simp only [go_sem]) ?_
  simp only [go_sem]
  have hfin : r.okI = ((r.pty.bkOk && ((r.high.one || decide (0 ≤ r.pty.has r.high.name r.high.view)) && r.pty.dnOk)) && (r.votes.all (fun v => v.ok r.n) && r.news.all (nwOk r.n))) := by simp only [Rpl.okI, hhd, hhd2, Bool.true_and]
  obtain ⟨V, hV⟩ : ∃ V, V = r.okI := ⟨_, rfl⟩
  rw [← hV] at hfin ⊢
  cases hb : r.pty.bkOk
  · simp only [go_sem]
    rw [hfin, hb, Bool.false_and, Bool.false_and]
  simp only [go_sem]
  refine call_lend ?_
  simp only [go_sem]
  refine callN.eq (ok57 r.high) (by simp only [go_sem]) ?_
  simp only [go_sem]
  have e1 : (!r.votes.any (fun v => !v.ok r.n)) = r.votes.all (fun v => v.ok r.n) := by rw [List.all_eq_not_any_not]
  have e2 : (!r.news.any (fun x => !nwOk r.n x)) = r.news.all (nwOk r.n) := by rw [List.all_eq_not_any_not]
  cases ho : r.high.one
  · simp only [go_sem]
    refine call_lend ?_
    simp only [go_sem]
    refine callN.eq (ok58 r.pty (Rpl.pty_len r) r.high.name r.high.view) (by simp only [go_sem]) ?_
    simp only [go_sem]
    by_cases hh : 0 ≤ r.pty.has r.high.name r.high.view
    rotate_left
    · have hh2 : r.pty.has r.high.name r.high.view < 0 := by omega
      simp only [go_sem, eq_true hh2]
      rw [hfin, hb, ho, decide_eq_false hh]
      rfl
    have hh2 : ¬ r.pty.has r.high.name r.high.view < 0 := by omega
    have hA : (r.high.one || decide (0 ≤ r.pty.has r.high.name r.high.view)) = true := by rw [decide_eq_true hh, Bool.or_true]
    simp only [go_sem, hh2]
    refine call_lend ?_
    simp only [go_sem]
    refine callN.eq (ok59 r.pty (Rpl.pty_len r)) (by simp only [go_sem]) ?_
    simp only [go_sem]
    cases hd : r.pty.dnOk
    · simp only [go_sem]
      rw [hfin, hb, hd, Bool.and_false, Bool.and_false]
      rfl
    simp only [go_sem]
    refine call_lend ?_
    simp only [go_sem]
    refine callN.eq (ok60 r.votes 61 [_] (fun v => !v.ok r.n) rfl rfl (fun x _ => ok61 x r)) (by simp only [go_sem]) ?_
    simp only [go_sem]
    cases hv : r.votes.any (fun v => !v.ok r.n)
    rotate_left
    · simp only [go_sem]
      rw [hfin, ← e1, hv, Bool.not_true, Bool.false_and, Bool.and_false]
    simp only [go_sem]
    refine call_lend ?_
    simp only [go_sem]
    refine callN.eq (ok63 r.news 64 [_] (fun x => !nwOk r.n x) rfl rfl (fun x _ => ok64 x r h)) (by simp only [go_sem]) ?_
    simp only [go_sem]
    rw [hfin, ← e1, hv, e2, hb, hA, hd]
    simp
  · have hA : (r.high.one || decide (0 ≤ r.pty.has r.high.name r.high.view)) = true := by rw [ho, Bool.true_or]
    simp only [go_sem]
    refine call_lend ?_
    simp only [go_sem]
    refine callN.eq (ok59 r.pty (Rpl.pty_len r)) (by simp only [go_sem]) ?_
    simp only [go_sem]
    cases hd : r.pty.dnOk
    · simp only [go_sem]
      rw [hfin, hb, hd, Bool.and_false, Bool.and_false]
      rfl
    simp only [go_sem]
    refine call_lend ?_
    simp only [go_sem]
    refine callN.eq (ok60 r.votes 61 [_] (fun v => !v.ok r.n) rfl rfl (fun x _ => ok61 x r)) (by simp only [go_sem]) ?_
    simp only [go_sem]
    cases hv : r.votes.any (fun v => !v.ok r.n)
    rotate_left
    · simp only [go_sem]
      rw [hfin, ← e1, hv, Bool.not_true, Bool.false_and, Bool.and_false]
    simp only [go_sem]
    refine call_lend ?_
    simp only [go_sem]
    refine callN.eq (ok63 r.news 64 [_] (fun x => !nwOk r.n x) rfl rfl (fun x _ => ok64 x r h)) (by simp only [go_sem]) ?_
    simp only [go_sem]
    rw [hfin, ← e1, hv, e2, hb, hA, hd]
    simp
end Go.VS

set_option linter.unusedSimpArgs false
set_option linter.unusedVariables false
open Go.Proofs
set_option maxRecDepth 20000
namespace Go.VS
theorem f3_at : gz.P.funcs[3]? = some Tryz.f3 := by
  have h : Tryz.prog.funcs[3]? = some Tryz.f3 := by kernel_rfl
  exact h
theorem Rpl.hold_of {r : Rpl} (h : r.sz ≤ 1048576) : r.hold := by
  have hr2 : r.high.sz + szL Blk.sz r.blocks + r.votes.length + r.news.length + r.done.length ≤ 1048576 := h
  have hl : r.blocks.length ≤ szL Blk.sz r.blocks := by
    have : szL Blk.sz r.blocks = r.blocks.length + (r.blocks.map Blk.sz).sum := rfl
    omega
  refine ⟨by omega, by omega, fun i hi => ?_, by omega, by omega, by omega⟩
  have := getD_sz (f := Blk.sz) hi
  omega
theorem ok3 (r : Rpl) : VCalls gz 3 [r.enc false] none (fun y _ => y = .lit (.bool true)) := by
  refine VCalls.go (nt := 27) (keep := [0, 1, 2, 3, 4, 5, 6, 11, 21, 26]) (muts := []) (mvs := []) [(10, .tree true (.take 0 (.take 1 (.all (.cons 2 (.all (.cons 3 (.take 4 .done) .nil)) .nil)))))] f3_at rfl (by kernel_rfl) rfl (by kernel_rfl) rfl (fun i h => by cases h) rfl ?_
  intro hok
  simp only [go_sem] at hok
  simp only [Tryz.f3, Func.code, Option.getD_some]
  simp only [go_sem]
  refine call_lend ?_
  simp only [go_sem]
  refine callN.eq (ok9 r 1048576 ⟨by omega, by omega⟩) (by simp only [go_sem]) ?_
  simp only [go_sem]
  by_cases h1 : (r.sz : Int) ≤ 1048576
  rotate_left
  · have e : szR r.sz 1048576 = -1 := szR_lt (by omega)
    rw [e]
    simp only [go_sem]
    try trivial
  · have e : szR r.sz 1048576 = 1048576 - r.sz := szR_le h1
    have n1 : ¬ ((1048576 : Int) - r.sz < 0) := by omega
    rw [e]
    simp only [go_sem, n1]
    have hz : r.sz ≤ 1048576 := by omega
    refine call_lend ?_
    simp only [go_sem]
    refine callN.eq (ok11 r hz) (by simp only [go_sem]) ?_
    simp only [go_sem]
    refine call_lend ?_
    simp only [go_sem]
    refine callN.eq (ok10 r) (by simp only [go_sem]) ?_
    simp only [go_sem]
    refine call_lend ?_
    simp only [go_sem]
    refine callN.eq (ok11 r hz) (by simp only [go_sem]) ?_
    simp only [go_sem]
    refine call_lend ?_
    simp only [go_sem]
    refine callN.eq (ok12 r (Rpl.hold_of hz)) (by simp only [go_sem]) ?_
    simp only [go_sem]
    rw [Rpl.law]
    simp only [go_sem, bne_self_eq_false]
    repeat' refine And.intro ?_ ?_
    all_goals
      refine call_lend ?_
      simp only [go_sem]
      refine callN.eq (ok11 r hz) (by simp only [go_sem]) ?_
      simp only [go_sem]
      refine call_lend ?_
      simp only [go_sem]
      refine callN.eq (ok13 r r) (by simp only [go_sem]) ?_
      simp only [go_sem]
end Go.VS
