/- VS: functions by the machine. -/
import Derived.Test.YtejhoajebbigbaaGreatDoorVs
import Derived.Test.YtejhoajebbigbaaGreatDoorVk
import Derived.Test.YtejhoajebbigbaaGreatDoorVg
import Derived.Test.YtejhoajebbigbaaGreatDoorVw
import Derived.Test.YtejhoajebbigbaaGreatDoorVn
set_option linter.unusedSimpArgs false
set_option linter.unusedVariables false
open Go.Proofs
set_option maxRecDepth 20000
namespace Go.VS
theorem f34_at : gz.P.funcs[34]? = some Tryz.f34 := by
 have h : Tryz.prog.funcs[34]? = some Tryz.f34 := by kernel_rfl
 exact h
theorem Rpl.okI_hd {r : Rpl} (h : r.hd = false) : r.okI = false := by simp only [Rpl.okI, h, Bool.false_and]
theorem Rpl.okI_hd2 {r : Rpl} (h : r.hd2 = false) : r.okI = false := by simp only [Rpl.okI, h, Bool.false_and, Bool.and_false]
theorem Rpl.pty_len (r : Rpl) : r.pty.names.length = r.pty.r.blocks.length := by simp [Rpl.pty]
set_option maxHeartbeats 4000000 in
theorem ok34 (r : Rpl) (hr : r.hold) : VCalls gz 34 [r.enc false] none (fun y _ => y = .lit (.bool r.okI)) := by
 refine VCalls.go (nt := 104) (keep := [0, 1, 2, 3, 40, 64, 91]) (muts := []) (mvs := []) [] f34_at rfl (by kernel_rfl) rfl (by kernel_rfl) rfl (fun i h => by cases h) rfl ?_
 intro hok
 simp only [go_sem] at hok
 simp only [Tryz.f34, Func.code, Option.getD_some]
 simp only [go_sem]
 refine call_lend ?_
 simp only [go_sem]
 refine callN.eq (ok76 r.n) (by simp only [go_sem]) ?_
 simp only [go_sem]
 cases h : srv r.n
 ·simp only [go_sem, qrm_neg, h, Rpl.okI_hd (r := r) (by simp only [Rpl.hd, h, Bool.false_and])]
 have hn := srv_iff.1 h
 have hw : IntKind.i64.wrap (r.n - 1) = r.n - 1 := wrap64 (by omega) (by omega)
 simp only [go_sem, qrm_neg, h, hw]
 refine call_lend ?_
 simp only [go_sem]
 refine callN.eq (ok77 r.id 0 (r.n - 1)) (by simp only [go_sem]) ?_
 simp only [go_sem]
 by_cases h2 : 0 <= r.id /\ r.id <= r.n - 1
 rotate_left
 ·simp only [go_sem, eq_false h2, Rpl.okI_hd (r := r) (by simp only [Rpl.hd, eq_false h2, decide_false, Bool.false_and, Bool.and_false])]
 simp only [go_sem, eq_true h2]
 refine call_lend ?_
 simp only [go_sem]
 refine callN.eq (ok78 r.view) (by simp only [go_sem]) ?_
 simp only [go_sem]
 by_cases h3 : 1 <= r.view /\ r.view <= 100000
 rotate_left
 ·simp only [go_sem, eq_false h3, Rpl.okI_hd (r := r) (by simp only [Rpl.hd, eq_false h3, decide_false, Bool.false_and, Bool.and_false])]
 simp only [go_sem, eq_true h3]
 refine call_lend ?_
 simp only [go_sem]
 refine callN.eq (ok77 r.voted 0 100000) (by simp only [go_sem]) ?_
 simp only [go_sem]
 by_cases h4 : 0 <= r.voted /\ r.voted <= 100000
 rotate_left
 ·simp only [go_sem, eq_false h4, Rpl.okI_hd (r := r) (by simp only [Rpl.hd, eq_false h4, decide_false, Bool.false_and, Bool.and_false])]
 simp only [go_sem, eq_true h4]
 refine call_lend ?_
 simp only [go_sem]
 refine callN.eq (ok77 r.locked 0 100000) (by simp only [go_sem]) ?_
 simp only [go_sem]
 by_cases h5 : 0 <= r.locked /\ r.locked <= 100000
 rotate_left
 ·simp only [go_sem, eq_false h5, Rpl.okI_hd (r := r) (by simp only [Rpl.hd, eq_false h5, decide_false, Bool.false_and, Bool.and_false])]
 simp only [go_sem, eq_true h5]
 refine call_lend ?_
 simp only [go_sem]
 refine callN.eq (ok77 r.proposed 0 100000) (by simp only [go_sem]) ?_
 simp only [go_sem]
 by_cases h6 : 0 <= r.proposed /\ r.proposed <= 100000
 rotate_left
 ·simp only [go_sem, eq_false h6, Rpl.okI_hd (r := r) (by simp only [Rpl.hd, eq_false h6, decide_false, Bool.false_and, Bool.and_false])]
 simp only [go_sem, eq_true h6]
 refine call_lend ?_
 simp only [go_sem]
 refine callN.eq (ok79 r.high r.n) (by simp only [go_sem]) ?_
 simp only [go_sem]
 cases h7 : r.high.ok r.n
 ·simp only [go_sem, Rpl.okI_hd2 (r := r) (by simp only [Rpl.hd2, h7, Bool.false_and])]
 simp only [go_sem]
 intro hm1
 by_cases h8 : 60 < (r.blocks.length : Int)
 ·simp only [go_sem, eq_true h8, Rpl.okI_hd2 (r := r) (by simp only [Rpl.hd2, decide_eq_false (show ¬ r.blocks.length <= 60 by omega), Bool.false_and, Bool.and_false])]
 simp only [go_sem, h8]
 intro hm2
 by_cases h9 : 60 < (r.votes.length : Int)
 ·simp only [go_sem, eq_true h9, Rpl.okI_hd2 (r := r) (by simp only [Rpl.hd2, decide_eq_false (show ¬ r.votes.length <= 60 by omega), Bool.false_and, Bool.and_false])]
 simp only [go_sem, h9]
 intro hm3
 by_cases h10 : 30 < (r.news.length : Int)
 ·simp only [go_sem, eq_true h10, Rpl.okI_hd2 (r := r) (by simp only [Rpl.hd2, decide_eq_false (show ¬ r.news.length <= 30 by omega), Bool.false_and, Bool.and_false])]
 simp only [go_sem, h10]
 have hhd : r.hd = true := by simp only [Rpl.hd, h, decide_eq_true h2, decide_eq_true h3, decide_eq_true h4, decide_eq_true h5, decide_eq_true h6, Bool.and_self]
 have hhd2 : r.hd2 = true := by simp only [Rpl.hd2, h7, decide_eq_true (show r.blocks.length <= 60 by omega), decide_eq_true (show r.votes.length <= 60 by omega), decide_eq_true (show r.news.length <= 30 by omega), Bool.and_self]
 refine call_lend ?_
 simp only [go_sem]
 refine callN.eq (ok35 r hr) (by simp only [go_sem]) ?_
 simp only [go_sem]
 refine call_lend ?_
 simp only [go_sem]
 refine callN.eq (ok80 r.pty (Rpl.pty_len r)) (by simp only [go_sem]) ?_
 simp only [go_sem]
 have hfin : r.okI = ((r.pty.bkOk && ((r.high.one || decide (0 <= r.pty.has r.high.name r.high.view)) && r.pty.dnOk)) && (r.votes.all (fun v => v.ok r.n) && r.news.all (nwOk r.n))) := by simp only [Rpl.okI, hhd, hhd2, Bool.true_and]
 obtain ⟨V, hV⟩ : ∃ V, V = r.okI := ⟨_, rfl⟩
 rw [<- hV] at hfin ⊢
 cases hb : r.pty.bkOk
 ·simp only [go_sem]
  rw [hfin, hb, Bool.false_and, Bool.false_and]
 simp only [go_sem]
 refine call_lend ?_
 simp only [go_sem]
 refine callN.eq (ok81 r.high) (by simp only [go_sem]) ?_
 simp only [go_sem]
 have e1 : (!r.votes.any (fun v => !v.ok r.n)) = r.votes.all (fun v => v.ok r.n) := by rw [List.all_eq_not_any_not]
 have e2 : (!r.news.any (fun x => !nwOk r.n x)) = r.news.all (nwOk r.n) := by rw [List.all_eq_not_any_not]
 cases ho : r.high.one
 ·simp only [go_sem]
  refine call_lend ?_
  simp only [go_sem]
  refine callN.eq (ok82 r.pty (Rpl.pty_len r) r.high.name r.high.view) (by simp only [go_sem]) ?_
  simp only [go_sem]
  by_cases hh : 0 <= r.pty.has r.high.name r.high.view
  rotate_left
  ·have hh2 : r.pty.has r.high.name r.high.view < 0 := by omega
   simp only [go_sem, eq_true hh2]
   rw [hfin, hb, ho, decide_eq_false hh]
   rfl
  have hh2 : ¬ r.pty.has r.high.name r.high.view < 0 := by omega
  have hA : (r.high.one || decide (0 <= r.pty.has r.high.name r.high.view)) = true := by rw [decide_eq_true hh, Bool.or_true]
  simp only [go_sem, hh2]
  refine call_lend ?_
  simp only [go_sem]
  refine callN.eq (ok83 r.pty (Rpl.pty_len r)) (by simp only [go_sem]) ?_
  simp only [go_sem]
  cases hd : r.pty.dnOk
  ·simp only [go_sem]
   rw [hfin, hb, hd, Bool.and_false, Bool.and_false]
   rfl
  simp only [go_sem]
  refine call_lend ?_
  simp only [go_sem]
  refine callN.eq (ok84 r.votes 85 [_] (fun v => !v.ok r.n) rfl rfl (fun x _ => ok85 x r)) (by simp only [go_sem]) ?_
  simp only [go_sem]
  cases hv : r.votes.any (fun v => !v.ok r.n)
  rotate_left
  ·simp only [go_sem]
   rw [hfin, <- e1, hv, Bool.not_true, Bool.false_and, Bool.and_false]
  simp only [go_sem]
  refine call_lend ?_
  simp only [go_sem]
  refine callN.eq (ok87 r.news 88 [_] (fun x => !nwOk r.n x) rfl rfl (fun x _ => ok88 x r h)) (by simp only [go_sem]) ?_
  simp only [go_sem]
  rw [hfin, <- e1, hv, e2, hb, hA, hd]
  simp
 ·have hA : (r.high.one || decide (0 <= r.pty.has r.high.name r.high.view)) = true := by rw [ho, Bool.true_or]
  simp only [go_sem]
  refine call_lend ?_
  simp only [go_sem]
  refine callN.eq (ok83 r.pty (Rpl.pty_len r)) (by simp only [go_sem]) ?_
  simp only [go_sem]
  cases hd : r.pty.dnOk
  ·simp only [go_sem]
   rw [hfin, hb, hd, Bool.and_false, Bool.and_false]
   rfl
  simp only [go_sem]
  refine call_lend ?_
  simp only [go_sem]
  refine callN.eq (ok84 r.votes 85 [_] (fun v => !v.ok r.n) rfl rfl (fun x _ => ok85 x r)) (by simp only [go_sem]) ?_
  simp only [go_sem]
  cases hv : r.votes.any (fun v => !v.ok r.n)
  rotate_left
  ·simp only [go_sem]
   rw [hfin, <- e1, hv, Bool.not_true, Bool.false_and, Bool.and_false]
  simp only [go_sem]
  refine call_lend ?_
  simp only [go_sem]
  refine callN.eq (ok87 r.news 88 [_] (fun x => !nwOk r.n x) rfl rfl (fun x _ => ok88 x r h)) (by simp only [go_sem]) ?_
  simp only [go_sem]
  rw [hfin, <- e1, hv, e2, hb, hA, hd]
  simp
end Go.VS
set_option linter.unusedSimpArgs false
set_option linter.unusedVariables false
open Go.Proofs
set_option maxRecDepth 20000
namespace Go.VS
theorem Rpl.hold_of {r : Rpl} (h : r.sz <= 1048576) : r.hold := by
 have hr2 : r.high.sz + szL Blk.sz r.blocks + r.votes.length + r.news.length + r.done.length <= 1048576 := h
 have hl : r.blocks.length <= szL Blk.sz r.blocks := by
  have : szL Blk.sz r.blocks = r.blocks.length + (r.blocks.map Blk.sz).sum := rfl
  omega
 refine ⟨by omega, by omega, fun i hi => ?_, by omega, by omega, by omega⟩
 have := getD_sz (f := Blk.sz) hi
 omega
end Go.VS
set_option linter.unusedSimpArgs false
set_option linter.unusedVariables false
open Go.Proofs
set_option maxRecDepth 20000
namespace Go.VS
theorem f26_at : gz.P.funcs[26]? = some Tryz.f26 := by
 have h : Tryz.prog.funcs[26]? = some Tryz.f26 := by kernel_rfl
 exact h
theorem f6_at : gz.P.funcs[6]? = some Tryz.f6 := by
 have h : Tryz.prog.funcs[6]? = some Tryz.f6 := by kernel_rfl
 exact h
theorem ok26 (r : Rpl) (hw : r.wf) (m : Msg) : VCalls gz 26 [.ptr true (r.enc true), m.enc false] (some 0) (fun y x' => y = .lst true 20 ((r.hr m).2.map (Msg.enc true)) /\ x' = (r.hr m).1.enc true) := by
 obtain ⟨T, hT⟩ : ∃ T, T = (r.hr m).1 := ⟨_, rfl⟩
 obtain ⟨U, hU⟩ : ∃ U, U = (r.hr m).2 := ⟨_, rfl⟩
 rw [<- hT, <- hU]
 have hn := srv_rng hw.sv
 have w1 : IntKind.i64.wrap (r.n - 1) = r.n - 1 := wrap64 (by omega) (by omega)
 refine VCalls.go (nt := 63) (keep := [0, 1, 3, 4, 5, 33, 36, 37, 43, 49]) (muts := [0]) (mvs := [3,6,12]) [(2, .tree true (.take 0 (.take 1 (.take 2 (.take 3 (.take 4 (.take 5 (.take 6 (.take 7 (.take 8 (.take 9 (.take 10 (.take 11 (.take 12 (.take 13 (.take 14 (.take 15 (.take 16 (.take 17 (.take 18 (.take 19 (.take 20 (.take 21 (.take 22 (.take 23 (.all (.cons 24 (.take 25 (.take 26 .done)) .nil)))))))))))))))))))))))))))] f26_at rfl (by kernel_rfl) rfl (by kernel_rfl) rfl (fun i h => by cases h; exact ⟨rfl, by simp⟩) rfl ?_
 intro hok
 simp only [go_sem] at hok
 simp only [Tryz.f26, Func.code, Option.getD_some]
 simp only [go_sem]
 by_cases c1 : m.dst = r.id
 rotate_left
 ·have e : r.hr m = (r, []) := if_neg (fun h => c1 h.1)
  rw [e] at hT hU
  simp only at hT hU
  subst hT hU
  simp only [go_sem, c1]
  try trivial
 simp only [go_sem, eq_true c1]
 by_cases c2 : m.src = r.id
 ·have e : r.hr m = (r, []) := if_neg (fun h => h.2.1 c2)
  rw [e] at hT hU
  simp only at hT hU
  subst hT hU
  simp only [go_sem, eq_true c2]
  try trivial
 simp only [go_sem, c2, w1]
 refine call_lend ?_
 simp only [go_sem]
 refine callN.eq (ok60 m.src 0 (r.n - 1)) (by simp only [go_sem]) ?_
 simp only [go_sem]
 by_cases c3 : 0 <= m.src /\ m.src <= r.n - 1
 rotate_left
 ·have e : r.hr m = (r, []) := if_neg (fun h => c3 h.2.2)
  rw [e] at hT hU
  simp only at hT hU
  subst hT hU
  simp only [go_sem, c3]
  try trivial
 have e : r.hr m = r.tk m := if_pos ⟨c1, c2, c3⟩
 rw [e] at hT hU
 simp only [go_sem, eq_true c3]
 by_cases k1 : m.kind = 1
 ·have e1 : r.tk m = r.tkB m.block := if_pos k1
  rw [e1] at hT hU
  simp only [go_sem, eq_true k1]
  refine call_mut 0 0 rfl rfl rfl (by simp only [go_sem]) ?_
  simp only [go_sem, List.set]
  refine callM.eq (ok70 r hw m.block) ?_
  simp only [go_sem]
  rw [hT, hU]
  try trivial
 by_cases k2 : m.kind = 2
 ·have e1 : r.tk m = (r.tkV m.vote, []) := by unfold Rpl.tk; rw [if_neg k1, if_pos k2]
  rw [e1] at hT hU
  simp only [go_sem, k1, eq_true k2]
  refine call_mut 0 0 rfl rfl rfl (by simp only [go_sem]) ?_
  simp only [go_sem, List.set]
  refine callM.eq (ok71 r hw m.vote) ?_
  simp only [go_sem]
  rw [hT, hU]
  try trivial
 by_cases k3 : m.kind = 3
 ·have e1 : r.tk m = ((r.tkP m.proof).tkN ⟨m.view, m.src⟩, []) := by unfold Rpl.tk; rw [if_neg k1, if_neg k2, if_pos k3]
  rw [e1] at hT hU
  simp only [go_sem, k1, k2, eq_true k3]
  refine call_mut 0 0 rfl rfl rfl (by simp only [go_sem]) ?_
  simp only [go_sem, List.set]
  refine callM.eq (ok72 r hw m.proof) ?_
  simp only [go_sem]
  refine call_mut 0 0 rfl rfl rfl (by simp only [go_sem]) ?_
  simp only [go_sem, List.set]
  refine callM.eq (ok73 (r.tkP m.proof) (hw.tkP m.proof) ⟨m.view, m.src⟩) ?_
  simp only [go_sem]
  rw [hT, hU]
  try trivial
 ·have e1 : r.tk m = (r, []) := by unfold Rpl.tk; rw [if_neg k1, if_neg k2, if_neg k3]
  rw [e1] at hT hU
  simp only [go_sem, k1, k2, k3]
  rw [hT, hU]
  try trivial
noncomputable def Rpl.hear (r : Rpl) (m : Msg) : Rpl × List Msg := if r.ok = true then r.hr m else (default, [])
theorem ok6 (r : Rpl) (hr : r.hold) (m : Msg) : VCalls gz 6 [r.enc false, m.enc false] none (fun y _ => y = .tup [(r.hear m).1.enc true, .lst true 20 ((r.hear m).2.map (Msg.enc true))]) := by
 refine VCalls.go (nt := 19) (keep := [0, 1, 2, 3, 4, 5, 6, 7, 10]) (muts := []) (mvs := [3,5]) [] f6_at rfl (by kernel_rfl) rfl (by kernel_rfl) rfl (fun i h => by cases h) rfl ?_
 intro hok
 simp only [go_sem] at hok
 simp only [Tryz.f6, Func.code, Option.getD_some]
 simp only [go_sem]
 refine call_lend ?_
 simp only [go_sem]
 refine callN.eq (ok24 r) (by simp only [go_sem]) ?_
 simp only [go_sem]
 cases h : r.ok
 ·have e : r.hear m = (default, []) := if_neg (by rw [h]; decide)
  rw [e]
  simp only [go_sem]
  try trivial
 have e : r.hear m = r.hr m := if_pos h
 rw [e]
 have hw : r.wf := Rpl.wf_of h hr.2.2.2.2.2 hr.1
 simp only [go_sem]
 refine call_lend ?_
 simp only [go_sem]
 refine callN.eq (ok25 r hr) (by simp only [go_sem]) ?_
 simp only [go_sem]
 refine call_mutL true 0 ⟨6,[]⟩ rfl rfl (by simp only [go_sem]; rfl) (by simp only [go_sem]) ?_
 simp only [go_sem, List.set]
 refine callM2.eq (ok26 r hw m) (by simp only [go_sem]) ?_
 simp only [go_sem]
 try trivial
end Go.VS
set_option linter.unusedSimpArgs false
set_option linter.unusedVariables false
open Go.Proofs
set_option maxRecDepth 20000
namespace Go.VS
theorem f9_at : gz.P.funcs[9]? = some Tryz.f9 := by
 have h : Tryz.prog.funcs[9]? = some Tryz.f9 := by kernel_rfl
 exact h
set_option maxHeartbeats 4000000 in
theorem ok9 (r : Rpl) (hr : r.hold) (m : Msg) : VCalls gz 9 [r.enc false, m.enc false] none (fun y _ => y = .tup [(r.hear m).1.enc true, .lst true 20 ((r.hear m).2.map (Msg.enc true))]) := by
 refine VCalls.go (nt := 22) (keep := [0, 1, 2, 3, 4, 5, 6, 9]) (muts := []) (mvs := [3,5,3019]) [(5, .tree false (.take 0 (.take 1 (.take 2 (.take 4 (.all (.cons 3 (.all (.cons 5 (.all (.cons 6 (.all (.cons 7 .done .nil)) .nil)) .nil)) (.cons 5 (.all (.cons 3 (.all (.cons 6 (.all (.cons 7 .done .nil)) .nil)) .nil)) .nil))))))))] f9_at rfl (by kernel_rfl) rfl (by kernel_rfl) rfl (fun i h => by cases h) rfl ?_
 intro hok
 simp only [go_sem] at hok
 simp only [Tryz.f9, Func.code, Option.getD_some]
 simp only [go_sem]
 refine call_lend ?_
 simp only [go_sem]
 refine callN.eq (ok34 r hr) (by simp only [go_sem]) ?_
 simp only [go_sem]
 rw [Rpl.law]
 cases h : r.ok
 ·have e : r.hear m = (default, []) := if_neg (by rw [h]; decide)
  rw [e]
  simp only [go_sem]
  try trivial
 have e : r.hear m = r.hr m := if_pos h
 rw [e]
 have hw : r.wf := Rpl.wf_of h hr.2.2.2.2.2 hr.1
 have hid : 0 <= r.id /\ r.id <= 6 := by
  have h' := h
  simp only [Rpl.ok, Rpl.hd, Bool.and_eq_true, decide_eq_true_eq] at h'
  have := srv_rng h'.1.1
  omega
 simp only [go_sem]
 refine call_lend ?_
 simp only [go_sem]
 refine callN.eq (ok35 r hr) (by simp only [go_sem]) ?_
 simp only [go_sem]
 have hh := ok36 r [] hw hid (by simp) m
 rw [List.nil_append] at hh
 have e2 : r.pty = r.wk [] := rfl
 rw [e2]
 refine call_mutL true 0 ⟨6,[]⟩ rfl rfl (by simp only [go_sem]; rfl) (by simp only [go_sem]) ?_
 simp only [go_sem, List.set]
 refine callM2.eq (hh) (by simp only [go_sem]) ?_
 simp only [go_sem]
 obtain ⟨T, hT⟩ : ∃ T, T = (r.hr m).1 := ⟨_, rfl⟩
 obtain ⟨U, hU⟩ : ∃ U, U = (r.hr m).2 := ⟨_, rfl⟩
 rw [<- hT, <- hU]
 repeat' refine And.intro ?_ ?_
 ·refine call_mutL true 0 ⟨6,[]⟩ rfl rfl (by simp only [go_sem]; rfl) (by simp only [go_sem]) ?_
  simp only [go_sem, List.set]
  refine callM2.eq (okU37 T (T.blocks.map Blk.nmI) U) (by simp only [go_sem]) ?_
  simp only [go_sem]
  repeat' refine And.intro ?_ ?_
  all_goals try trivial
 ·refine call_mutL true 0 ⟨6,[]⟩ rfl rfl (by simp only [go_sem]; rfl) (by simp only [go_sem]) ?_
  simp only [go_sem, List.set]
  refine callM2.eq (ok37 T U) (by simp only [go_sem]) ?_
  simp only [go_sem]
  repeat' refine And.intro ?_ ?_
  all_goals try trivial
end Go.VS
set_option linter.unusedSimpArgs false
set_option linter.unusedVariables false
open Go.Proofs
set_option maxRecDepth 20000
namespace Go.VS
theorem f45_at : gz.P.funcs[45]? = some Tryz.f45 := by
 have h : Tryz.prog.funcs[45]? = some Tryz.f45 := by kernel_rfl
 exact h
theorem f52_at : gz.P.funcs[52]? = some Tryz.f52 := by
 have h : Tryz.prog.funcs[52]? = some Tryz.f52 := by kernel_rfl
 exact h
theorem f46_at : gz.P.funcs[46]? = some Tryz.f46 := by
 have h : Tryz.prog.funcs[46]? = some Tryz.f46 := by kernel_rfl
 exact h
theorem f53_at : gz.P.funcs[53]? = some Tryz.f53 := by
 have h : Tryz.prog.funcs[53]? = some Tryz.f53 := by kernel_rfl
 exact h
theorem mkL_rng {α : Type} (f : α -> Int -> α × Int) {w : α -> Nat} (h : mkC f w) (xs : List α) (k : Int) : (mkL f xs k).2 = k + (tot w xs : Nat) := by
 have := mkN_add f h xs k xs.length
 rw [mkN_all, List.take_length] at this
 exact this
theorem tot_const {α : Type} (c : Nat) (xs : List α) : tot (fun _ => c) xs = xs.length * c := by
 unfold tot
 induction xs with
 | nil => simp
 | cons x xs ih => simp only [List.map_cons, List.sum_cons, List.length_cons, ih, Nat.add_mul, Nat.one_mul]; omega
def iM (xs : List Int) (k : Int) : List Int := (mkL intM xs k).1
def sM (xs : List ByteArray) (k : Int) : List ByteArray := (mkL strM xs k).1
theorem iM_snd (xs : List Int) (k : Int) : (mkL intM xs k).2 = k + (xs.length : Int) := by rw [mkL_rng _ intM_c, tot_const]; simp
theorem sM_snd (xs : List ByteArray) (k : Int) : (mkL strM xs k).2 = k + (xs.length : Int) := by rw [mkL_rng _ strM_c, tot_const]; simp
theorem iM_len (xs : List Int) (k : Int) : (iM xs k).length = xs.length := mkL_length _ _ _
theorem sM_len (xs : List ByteArray) (k : Int) : (sM xs k).length = xs.length := mkL_length _ _ _
theorem okI49 (xs : List Int) (k : Int) (h1 : 0 <= k) (h2 : k + xs.length <= 4611686018427387904) :
  VMut gz 49 [.lst true 1 (xs.map intA), .lit (.int .i64 k)] 0 (fun y x' => y = .lit (.int .i64 (k + xs.length)) /\ x' = .lst true 1 ((iM xs k).map intA)) := by
 have := ok49 xs k h1 (by rw [tot_const]; omega)
 rwa [iM_snd] at this
theorem okI56 (xs : List Int) (k : Int) (h1 : 0 <= k) (h2 : k + xs.length <= 4611686018427387904) :
  VCalls gz 56 [.lst false 1 ((iM xs k).map intA), .lit (.int .i64 k)] none (fun y _ => y = .lit (.int .i64 (k + xs.length))) := by
 have := ok56 xs k h1 (by rw [tot_const]; omega)
 rwa [iM_snd] at this
theorem okI51 (xs : List ByteArray) (k : Int) (h1 : 0 <= k) (h2 : k + xs.length <= 4611686018427387904) :
  VMut gz 51 [.lst true 1 (xs.map strA), .lit (.int .i64 k)] 0 (fun y x' => y = .lit (.int .i64 (k + xs.length)) /\ x' = .lst true 1 ((sM xs k).map strA)) := by
 have := ok51 xs k h1 (by rw [tot_const]; omega)
 rwa [sM_snd] at this
theorem okI57 (xs : List ByteArray) (k : Int) (h1 : 0 <= k) (h2 : k + xs.length <= 4611686018427387904) :
  VCalls gz 57 [.lst false 1 ((sM xs k).map strA), .lit (.int .i64 k)] none (fun y _ => y = .lit (.int .i64 (k + xs.length))) := by
 have := ok57 xs k h1 (by rw [tot_const]; omega)
 rwa [sM_snd] at this
theorem tot_getD {α : Type} [Inhabited α] {w : α -> Nat} {xs : List α} {i : Nat} (h : i < xs.length) (k : Int) {f : α -> Int -> α × Int} (hf : mkC f w) : mkN f xs k i + (w (xs.getD i default) : Nat) <= k + (tot w xs : Nat) := by
 have h1 := (mkN_succ f xs k i h).1
 have h2 := (mkN_rng f hf xs k (i + 1)).2
 rw [hf] at h1
 omega
def Prf.mw (p : Prf) : Nat := p.bys.length + p.tags.length
def Prf.mkP (p : Prf) (k : Int) : Prf × Int := (⟨p.view, p.name, iM p.bys k, iM p.tags (k + p.bys.length)⟩, k + p.mw)
theorem ok45 (p : Prf) (k : Int) (h1 : 0 <= k) (h2 : k + (p.mw : Nat) <= 4611686018427387904) :
  VMut gz 45 [p.enc true, .lit (.int .i64 k)] 0 (fun y x' => y = .lit (.int .i64 (p.mkP k).2) /\ x' = (p.mkP k).1.enc true) := by
 have h2' : k + ((p.bys.length + p.tags.length : Nat) : Int) <= 4611686018427387904 := h2
 refine VMut.go (nt := 14) (keep := [0, 1, 2, 4]) (i := 0) (mvs := []) [] f45_at rfl (by kernel_rfl) rfl (by kernel_rfl) rfl rfl rfl ?_
 intro hok
 simp only [go_sem] at hok
 simp only [Tryz.f45, Func.code, Option.getD_some]
 simp only [go_sem]
 refine call_give 0 0 [.fld 2] rfl rfl rfl (by simp only [go_sem]; rfl) (by simp only [go_sem, List.getElem?_cons_zero, List.getElem?_cons_succ]) (by simp only [go_sem]) (by simp only [go_sem]) (by simp only [go_sem]) ?_
 simp only [go_sem, List.set]
 refine callW.eq (okI49 p.bys k h1 (by omega)) ?_
 simp only [go_sem]
 refine ⟨iM_len _ _, ?_⟩
 refine call_give 0 0 [.fld 3] rfl rfl rfl (by simp only [go_sem]; rfl) (by simp only [go_sem, List.getElem?_cons_zero, List.getElem?_cons_succ]) (by simp only [go_sem]) (by simp only [go_sem]) (by simp only [go_sem]) ?_
 simp only [go_sem, List.set]
 refine callW.eq (okI49 p.tags (k + p.bys.length) (by omega) (by omega)) ?_
 simp only [go_sem]
 refine ⟨iM_len _ _, ?_⟩
 have : k + (p.bys.length : Int) + (p.tags.length : Int) = k + (p.mw : Int) := by unfold Prf.mw; omega
 simp only [Prf.mkP, this]
 try trivial
theorem ok52 (p : Prf) (k : Int) (h1 : 0 <= k) (h2 : k + (p.mw : Nat) <= 4611686018427387904) :
  VCalls gz 52 [(p.mkP k).1.enc false, .lit (.int .i64 k)] none (fun y _ => y = .lit (.int .i64 (p.mkP k).2)) := by
 have h2' : k + ((p.bys.length + p.tags.length : Nat) : Int) <= 4611686018427387904 := h2
 have e : p.mkP k = (⟨p.view, p.name, iM p.bys k, iM p.tags (k + p.bys.length)⟩, k + p.mw) := rfl
 have this : k + (p.bys.length : Int) + (p.tags.length : Int) = k + (p.mw : Int) := by unfold Prf.mw; omega
 rw [e]
 refine VCalls.go (nt := 18) (keep := [0, 1, 2, 4, 10, 16]) (muts := []) (mvs := []) [] f52_at rfl (by kernel_rfl) rfl (by kernel_rfl) rfl (fun i h => by cases h) rfl ?_
 intro hok
 simp only [go_sem] at hok
 simp only [Tryz.f52, Func.code, Option.getD_some]
 simp only [go_sem]
 refine call_lend ?_
 simp only [go_sem]
 refine callN.eq (okI56 p.bys k h1 (by omega)) (by simp only [go_sem]) ?_
 simp only [go_sem]
 have n1 : ¬ (k + (p.bys.length : Int) < 0) := by omega
 simp only [go_sem, n1]
 refine call_lend ?_
 simp only [go_sem]
 refine callN.eq (okI56 p.tags (k + p.bys.length) (by omega) (by omega)) (by simp only [go_sem]) ?_
 simp only [go_sem]
 have n2 : ¬ (k + (p.mw : Int) < 0) := by omega
 simp only [go_sem, this, n2]
theorem Blk.put0 {xs : List Blk} {o : Bool} {i : Nat} {a : Int} : (xs.map (Blk.enc o)).modify i (putF [0] (.lit (.int .i64 a))) = (xs.modify i (fun p => { p with view := a })).map (Blk.enc o) := modify_flds _ fun x => rfl
theorem Blk.put1 {xs : List Blk} {o : Bool} {i : Nat} {a : Int} : (xs.map (Blk.enc o)).modify i (putF [1] (.lit (.int .i64 a))) = (xs.modify i (fun p => { p with parent := a })).map (Blk.enc o) := modify_flds _ fun x => rfl
theorem Blk.put20 {xs : List Blk} {o : Bool} {i : Nat} {a : Int} : (xs.map (Blk.enc o)).modify i (putF [2, 0] (.lit (.int .i64 a))) = (xs.modify i (fun p => { p with proof := { p.proof with view := a } })).map (Blk.enc o) := modify_flds _ fun x => rfl
theorem Blk.put21 {xs : List Blk} {o : Bool} {i : Nat} {a : Int} : (xs.map (Blk.enc o)).modify i (putF [2, 1] (.lit (.int .i64 a))) = (xs.modify i (fun p => { p with proof := { p.proof with name := a } })).map (Blk.enc o) := modify_flds _ fun x => rfl
theorem Blk.put4 {xs : List Blk} {o : Bool} {i : Nat} {a : Int} : (xs.map (Blk.enc o)).modify i (putF [4] (.lit (.int .i64 a))) = (xs.modify i (fun p => { p with bY := a })).map (Blk.enc o) := modify_flds _ fun x => rfl
theorem Blk.putL22 {xs : List Blk} {i : Nat} {ys : List Int} : (xs.map (Blk.enc true)).modify i (putP [.fld 2, .fld 2] (.lst true 1 (ys.map intA))) = (xs.modify i (fun p => { p with proof := { p.proof with bys := ys } })).map (Blk.enc true) := modify_flds _ fun x => rfl
theorem Blk.putL23 {xs : List Blk} {i : Nat} {ys : List Int} : (xs.map (Blk.enc true)).modify i (putP [.fld 2, .fld 3] (.lst true 1 (ys.map intA))) = (xs.modify i (fun p => { p with proof := { p.proof with tags := ys } })).map (Blk.enc true) := modify_flds _ fun x => rfl
theorem Blk.putL3 {xs : List Blk} {i : Nat} {ys : List ByteArray} : (xs.map (Blk.enc true)).modify i (putP [.fld 3] (.lst true 1 (ys.map strA))) = (xs.modify i (fun p => { p with moves := ys })).map (Blk.enc true) := modify_flds _ fun x => rfl
attribute [go_sem] putP_lst Blk.put0 Blk.put1 Blk.put20 Blk.put21 Blk.put4 Blk.putL22 Blk.putL23 Blk.putL3
theorem getD_mod {L : List Blk} {i : Nat} {B : Blk} (h : i < L.length) (hb : L.getD i default = B) (f : Blk -> Blk) : (L.modify i f).getD i default = f B := by
 simp [List.getD, List.getElem?_modify, h] at hb ⊢
 rw [hb]
def Blk.mw (b : Blk) : Nat := 5 + b.proof.bys.length + b.proof.tags.length + b.moves.length
def Blk.mkB (b : Blk) (k : Int) : Blk × Int := (⟨k, k + 1, ⟨k + 2, k + 3, iM b.proof.bys (k + 4), iM b.proof.tags (k + 4 + b.proof.bys.length)⟩, sM b.moves (k + 4 + b.proof.bys.length + b.proof.tags.length), k + 4 + b.proof.bys.length + b.proof.tags.length + b.moves.length⟩, k + b.mw)
theorem Blk.mkB_c : mkC Blk.mkB Blk.mw := fun x k => rfl
theorem ok53 (xs : List Blk) (k : Int) (h1 : 0 <= k) (h2 : k + (tot Blk.mw xs : Nat) <= 4611686018427387904) :
  VCalls gz 53 [.lst false 8 ((mkL Blk.mkB xs k).1.map (Blk.enc false)), .lit (.int .i64 k)] none (fun y _ => y = .lit (.int .i64 (mkL Blk.mkB xs k).2)) := by
 refine VCalls.go (nt := 89) (keep := [0, 1, 4, 5, 9, 18, 27, 37, 47, 59, 69, 78, 85]) (muts := []) (mvs := []) [] f53_at rfl (by kernel_rfl) rfl (by kernel_rfl) rfl (fun i h => by cases h) rfl ?_
 intro hok
 simp only [go_sem] at hok
 simp only [Tryz.f53, Func.code, Option.getD_some]
 simp only [go_sem]
 have hM := mkL_length Blk.mkB xs k
 refine vm_loopK (α := Nat) (fun i => [(0, .lst false 8 ((mkL Blk.mkB xs k).1.map (Blk.enc false))), (1, .lit (.int .i64 (mkN Blk.mkB xs k i))), (4, .lit (.int .i64 0)), (5, .lit (.int .i64 i))]) (fun i => i <= xs.length) (fun i => xs.length - i) 0 ?_ (by omega) (by kernel_rfl) (fun _ => rfl) ?_
 ·simp only [go_sem, mkN_zero]
  try trivial
 ·intro i hi hk
  simp only [go_sem, hM]
  intro _
  first | refine branch_ndec (fun h3 => ?_) (fun h3 => ?_) | refine branch_dec (fun h3 => ?_) (fun h3 => ?_) | refine branch_nbool (fun h3 => ?_) (fun h3 => ?_) | refine branch_split (fun h3 => ?_) (fun h3 => ?_)
  ·have hlt : i < xs.length := by omega
   have h0 : (0 : Int) <= (i : Int) := by omega
   have hs := mkN_succ Blk.mkB xs k i hlt
   have hr := mkN_rng Blk.mkB Blk.mkB_c xs k i
   have hr2 := mkN_rng Blk.mkB Blk.mkB_c xs k (i + 1)
   have hw3 : IntKind.i64.wrap ((i : Int) + 1) = ((i + 1 : Nat) : Int) := by rw [wrap64 (by omega) (by omega)]; omega
   have hmi := tot_getD (w := Blk.mw) hlt k Blk.mkB_c
   have hmw : (xs.getD i default).mw = 5 + (xs.getD i default).proof.bys.length + (xs.getD i default).proof.tags.length + (xs.getD i default).moves.length := rfl
   obtain ⟨B, hB⟩ : ∃ B, B = xs.getD i default := ⟨_, rfl⟩
   obtain ⟨K, hK⟩ : ∃ K, K = mkN Blk.mkB xs k i := ⟨_, rfl⟩
   rw [<- hB] at hmw hmi hs
   rw [<- hK] at hs hr hmi ⊢
   have hs1 : mkN Blk.mkB xs k (i + 1) = K + B.mw := hs.1
   have hv : (mkL Blk.mkB xs k).1.getD i default = ⟨K, K + 1, ⟨K + 2, K + 3, iM B.proof.bys (K + 4), iM B.proof.tags (K + 4 + B.proof.bys.length)⟩, sM B.moves (K + 4 + B.proof.bys.length + B.proof.tags.length), K + 4 + B.proof.bys.length + B.proof.tags.length + B.moves.length⟩ := hs.2
   have w1 : IntKind.i64.wrap (K + 1) = K + 1 := wrap64 (by omega) (by omega)
   have w3 : IntKind.i64.wrap (K + 1 + 1) = K + 2 := by rw [wrap64 (by omega) (by omega)]; omega
   have w4 : IntKind.i64.wrap (K + 2 + 1) = K + 3 := by rw [wrap64 (by omega) (by omega)]; omega
   have w5 : IntKind.i64.wrap (K + 3 + 1) = K + 4 := by rw [wrap64 (by omega) (by omega)]; omega
   have w9 : IntKind.i64.wrap (K + 4 + B.proof.bys.length + B.proof.tags.length + B.moves.length + 1) = K + B.mw := by rw [wrap64 (by omega) (by omega)]; omega
   simp only [go_sem, h0, h3, hM, hlt, hv, hw3, w1, w3, w4, w5]
   repeat' refine And.intro ?_ ?_
   all_goals
    refine call_lend ?_
    simp only [go_sem]
    refine callN.eq (okI56 B.proof.bys (K + 4) (by omega) (by omega)) (by simp only [go_sem]) ?_
    simp only [go_sem]
    have n1 : ¬ (K + 4 + (B.proof.bys.length : Int) < 0) := by omega
    have n2 : ¬ (K + 4 + (B.proof.bys.length : Int) + (B.proof.tags.length : Int) < 0) := by omega
    have n3 : ¬ (K + 4 + (B.proof.bys.length : Int) + (B.proof.tags.length : Int) + (B.moves.length : Int) < 0) := by omega
    simp only [go_sem, h0, h3, hM, hlt, hv, n1, n2, n3]
    refine call_lend ?_
    simp only [go_sem]
    refine callN.eq (okI56 B.proof.tags (K + 4 + B.proof.bys.length) (by omega) (by omega)) (by simp only [go_sem]) ?_
    simp only [go_sem]
    have n1 : ¬ (K + 4 + (B.proof.bys.length : Int) < 0) := by omega
    have n2 : ¬ (K + 4 + (B.proof.bys.length : Int) + (B.proof.tags.length : Int) < 0) := by omega
    have n3 : ¬ (K + 4 + (B.proof.bys.length : Int) + (B.proof.tags.length : Int) + (B.moves.length : Int) < 0) := by omega
    simp only [go_sem, h0, h3, hM, hlt, hv, n1, n2, n3]
    refine call_lend ?_
    simp only [go_sem]
    refine callN.eq (okI57 B.moves (K + 4 + B.proof.bys.length + B.proof.tags.length) (by omega) (by omega)) (by simp only [go_sem]) ?_
    simp only [go_sem]
    have n1 : ¬ (K + 4 + (B.proof.bys.length : Int) < 0) := by omega
    have n2 : ¬ (K + 4 + (B.proof.bys.length : Int) + (B.proof.tags.length : Int) < 0) := by omega
    have n3 : ¬ (K + 4 + (B.proof.bys.length : Int) + (B.proof.tags.length : Int) + (B.moves.length : Int) < 0) := by omega
    simp only [go_sem, h0, h3, hM, hlt, hv, n1, n2, n3]
    simp only [go_sem, hw3, w9]
    refine again_intro (i + 1) (by omega) (by omega) ?_
    simp only [go_sem, hs1]
    try trivial
  ·simp only [go_sem]
   have : i = xs.length := by omega
   subst this
   rw [mkN_all]
theorem ok46 (xs : List Blk) (k : Int) (h1 : 0 <= k) (h2 : k + (tot Blk.mw xs : Nat) <= 4611686018427387904) :
  VMut gz 46 [.lst true 8 (xs.map (Blk.enc true)), .lit (.int .i64 k)] 0 (fun y x' => y = .lit (.int .i64 (mkL Blk.mkB xs k).2) /\ x' = .lst true 8 ((mkL Blk.mkB xs k).1.map (Blk.enc true))) := by
 refine VMut.go (nt := 73) (keep := [0, 1, 4, 5, 9]) (i := 0) (mvs := []) [] f46_at rfl (by kernel_rfl) rfl (by kernel_rfl) rfl rfl rfl ?_
 intro hok
 simp only [go_sem] at hok
 simp only [Tryz.f46, Func.code, Option.getD_some]
 simp only [go_sem]
 have hM := mkL_length Blk.mkB xs k
 refine vm_loopK (α := Nat) (fun i => [(0, .lst true 8 ((midL (mkL Blk.mkB xs k).1 xs i).map (Blk.enc true))), (1, .lit (.int .i64 (mkN Blk.mkB xs k i))), (4, .lit (.int .i64 0)), (5, .lit (.int .i64 i))]) (fun i => i <= xs.length) (fun i => xs.length - i) 0 ?_ (by omega) (by kernel_rfl) (fun _ => rfl) ?_
 ·simp only [go_sem, midL_zero, mkN_zero]
  try trivial
 ·intro i hi hk
  have hml : (midL (mkL Blk.mkB xs k).1 xs i).length = xs.length := (midL_length (by omega) hM.symm).trans hM
  simp only [go_sem, hml]
  intro _
  first | refine branch_ndec (fun h3 => ?_) (fun h3 => ?_) | refine branch_dec (fun h3 => ?_) (fun h3 => ?_) | refine branch_nbool (fun h3 => ?_) (fun h3 => ?_) | refine branch_split (fun h3 => ?_) (fun h3 => ?_)
  ·have hlt : i < xs.length := by omega
   have h0 : (0 : Int) <= (i : Int) := by omega
   have hs := mkN_succ Blk.mkB xs k i hlt
   have hr := mkN_rng Blk.mkB Blk.mkB_c xs k i
   have hr2 := mkN_rng Blk.mkB Blk.mkB_c xs k (i + 1)
   have hw3 : IntKind.i64.wrap ((i : Int) + 1) = ((i + 1 : Nat) : Int) := by rw [wrap64 (by omega) (by omega)]; omega
   have hb : (midL (mkL Blk.mkB xs k).1 xs i).getD i default = xs.getD i default := midL_get (by omega) hM.symm
   have hmi := tot_getD (w := Blk.mw) hlt k Blk.mkB_c
   have hmw : (xs.getD i default).mw = 5 + (xs.getD i default).proof.bys.length + (xs.getD i default).proof.tags.length + (xs.getD i default).moves.length := rfl
   obtain ⟨B, hB⟩ : ∃ B, B = xs.getD i default := ⟨_, rfl⟩
   obtain ⟨K, hK⟩ : ∃ K, K = mkN Blk.mkB xs k i := ⟨_, rfl⟩
   rw [<- hB] at hb hmw hmi hs
   rw [<- hK] at hs hr hmi ⊢
   have hs1 : mkN Blk.mkB xs k (i + 1) = K + B.mw := hs.1
   have hset : (midL (mkL Blk.mkB xs k).1 xs i).modify i (fun _ => (B.mkB K).1) = midL (mkL Blk.mkB xs k).1 xs (i + 1) := midL_mod (by omega) hM.symm hs.2.symm
   have w1 : IntKind.i64.wrap (K + 1) = K + 1 := wrap64 (by omega) (by omega)
   have w3 : IntKind.i64.wrap (K + 1 + 1) = K + 2 := by rw [wrap64 (by omega) (by omega)]; omega
   have w4 : IntKind.i64.wrap (K + 2 + 1) = K + 3 := by rw [wrap64 (by omega) (by omega)]; omega
   have w5 : IntKind.i64.wrap (K + 3 + 1) = K + 4 := by rw [wrap64 (by omega) (by omega)]; omega
   obtain ⟨L, hL⟩ : ∃ L, L = midL (mkL Blk.mkB xs k).1 xs i := ⟨_, rfl⟩
   rw [<- hL] at hml hb hset ⊢
   have hgd := getD_mod (by omega) hb
   have hge : ∀ f : Blk -> Blk, (List.map (Blk.enc true) (L.modify i f))[i]? = some (Blk.enc true (f B)) := fun f => by
    have hlm : i < (L.modify i f).length := by rw [List.length_modify]; omega
    have h9 := hgd f
    simp only [List.getD, List.getElem?_eq_getElem hlm, Option.getD_some] at h9
    simp only [List.getElem?_map, List.getElem?_eq_getElem hlm, Option.map_some, h9]
   simp only [go_sem, h0, h3, hml, hlt, hw3, w1, w3, w4, w5, hgd]
   refine call_give 0 0 [.idx i, .fld 2, .fld 2] (x := .lst true 1 (B.proof.bys.map intA)) rfl rfl rfl (by simp only [go_sem, hge]) (by simp only [go_sem, List.getElem?_cons_zero, List.getElem?_cons_succ]) (by simp only [go_sem]) (by simp only [go_sem]) (by simp only [go_sem]) ?_
   simp only [go_sem, List.set]
   refine callW.eq (okI49 B.proof.bys (K + 4) (by omega) (by omega)) ?_
   simp only [go_sem, hgd, h0, h3, hml, hlt, hw3, w1, w3, w4, w5]
   refine ⟨iM_len _ _, ?_⟩
   refine call_give 0 0 [.idx i, .fld 2, .fld 3] (x := .lst true 1 (B.proof.tags.map intA)) rfl rfl rfl (by simp only [go_sem, hge]) (by simp only [go_sem, List.getElem?_cons_zero, List.getElem?_cons_succ]) (by simp only [go_sem]) (by simp only [go_sem]) (by simp only [go_sem]) ?_
   simp only [go_sem, List.set]
   refine callW.eq (okI49 B.proof.tags (K + 4 + B.proof.bys.length) (by omega) (by omega)) ?_
   simp only [go_sem, hgd, h0, h3, hml, hlt, hw3, w1, w3, w4, w5]
   refine ⟨iM_len _ _, ?_⟩
   refine call_give 0 0 [.idx i, .fld 3] (x := .lst true 1 (B.moves.map strA)) rfl rfl rfl (by simp only [go_sem, hge]) (by simp only [go_sem, List.getElem?_cons_zero, List.getElem?_cons_succ]) (by simp only [go_sem]) (by simp only [go_sem]) (by simp only [go_sem]) ?_
   simp only [go_sem, List.set]
   refine callW.eq (okI51 B.moves (K + 4 + B.proof.bys.length + B.proof.tags.length) (by omega) (by omega)) ?_
   simp only [go_sem, hgd, h0, h3, hml, hlt, hw3, w1, w3, w4, w5]
   refine ⟨sM_len _ _, ?_⟩
   have w9 : IntKind.i64.wrap (K + 4 + B.proof.bys.length + B.proof.tags.length + B.moves.length + 1) = K + B.mw := by rw [wrap64 (by omega) (by omega)]; omega
   simp only [go_sem, w9]
   refine again_intro (i + 1) (by omega) (by omega) ?_
   simp only [go_sem, hs1]
   exact congrArg (List.map (Blk.enc true)) hset
  ·simp only [go_sem]
   have : i = xs.length := by omega
   subst this
   have e : midL (mkL Blk.mkB xs k).1 xs xs.length = (mkL Blk.mkB xs k).1 := by
    have := midL_all (mkL Blk.mkB xs k).1 hM.symm
    rwa [hM] at this
   rw [mkN_all, e]
   simp only [go_sem]
   try trivial
end Go.VS
