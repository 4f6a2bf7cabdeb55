/- VS: functions by the machine. -/
import Derived.Test.YtgoohbakklimcaaDoorVq
set_option linter.unusedSimpArgs false
set_option linter.unusedVariables false
open Go.Proofs Go.RowKit
set_option maxRecDepth 20000
namespace Go.VS
theorem f3_at : gz.P.funcs[3]? = some Tryd.f3 := by
  have h : Tryd.prog.funcs[3]? = some Tryd.f3 := by kernel_rfl
  exact h
set_option maxHeartbeats 4000000 in
theorem ok3 (b : Bnk) (l : List ByteArray) : VCalls gz 3 [b.enc false, .lst false 1 (l.map strA)] none (fun y _ => y = .lit (.bool true)) := by
  have hbz : b.sz = b.money.length + b.counts.length := rfl
  refine VCalls.go (nt := 135) (keep := [0, 1, 2, 4, 5, 6, 7, 8, 9, 10, 11, 12, 13, 14, 15, 16, 21, 26, 54, 59, 64, 84, 95, 100, 103, 121, 126, 131, 134]) (muts := []) (mvs := []) [(14, .tree true (.take 0 (.take 1 (.all (.cons 2 (.all (.cons 3 (.take 4 .done) .nil)) .nil)))))] f3_at rfl (by kernel_rfl) rfl (by kernel_rfl) rfl (fun i h => by cases h) rfl ?_
  intro hok
  simp only [go_sem] at hok
  simp only [Tryd.f3, Func.code, Option.getD_some]
  simp only [go_sem]
  refine call_lend ?_
  simp only [go_sem]
  refine callN.eq (ok5 b 1048576 ⟨by omega, by omega⟩) (by simp only [go_sem]) ?_
  simp only [go_sem]
  by_cases h1 : (b.sz : Int) ≤ 1048576
  rotate_left
  · rw [show szR b.sz 1048576 = -1 from szR_lt (by omega)]
    simp only [go_sem]
    try trivial
  rw [show szR b.sz 1048576 = 1048576 - b.sz from szR_le h1]
  have n1 : ¬ ((1048576 : Int) - b.sz < 0) := by omega
  simp only [go_sem, n1]
  refine call_lend ?_
  simp only [go_sem]
  refine callN.eq (ok6 l _ ⟨by omega, by omega⟩) (by simp only [go_sem]) ?_
  simp only [go_sem]
  by_cases h2 : (szL ByteArray.size l : Int) ≤ 1048576 - b.sz
  rotate_left
  · rw [show szR (szL ByteArray.size l) (1048576 - b.sz) = -1 from szR_lt (by omega)]
    simp only [go_sem]
    try trivial
  rw [show szR (szL ByteArray.size l) (1048576 - b.sz) = 1048576 - b.sz - (szL ByteArray.size l : Nat) from szR_le h2]
  have n2 : ¬ ((1048576 : Int) - b.sz - (szL ByteArray.size l : Nat) < 0) := by omega
  simp only [go_sem, n2]
  have hll := len_szL (l := l)
  have hz : b.sz ≤ 1048576 := by omega
  have hl : l.length ≤ 1048576 := by omega
  have hs : ∀ s ∈ l, s.size ≤ 4000000 := fun s h => by
    have := mem_szL h
    omega
  have hA := Bnk.ans_len b l
  have hAz : (b.ans l).1.sz = (b.ans l).1.money.length + (b.ans l).1.counts.length := rfl
  refine call_lend ?_
  simp only [go_sem]
  refine callN.eq (ok8 b hz) (by simp only [go_sem]) ?_
  simp only [go_sem]
  refine call_lend ?_
  simp only [go_sem]
  refine callN.eq (ok9 l hl) (by simp only [go_sem]) ?_
  simp only [go_sem]
  refine call_lend ?_
  simp only [go_sem]
  refine callN.eq (ok7 b l (by omega) (by omega) hl hs) (by simp only [go_sem]) ?_
  simp only [go_sem]
  refine call_lend ?_
  simp only [go_sem]
  refine callN.eq (ok8 b hz) (by simp only [go_sem]) ?_
  simp only [go_sem]
  refine call_lend ?_
  simp only [go_sem]
  refine callN.eq (ok9 l hl) (by simp only [go_sem]) ?_
  simp only [go_sem]
  refine call_lend ?_
  simp only [go_sem]
  refine callN.eq (ok10 b l (by omega) (by omega) hl hs) (by simp only [go_sem]) ?_
  simp only [go_sem]
  obtain ⟨A, eA⟩ : ∃ A, A = b.ans l := ⟨_, rfl⟩
  rw [← eA] at hA hAz
  simp only [← eA]
  obtain ⟨A1, A2⟩ := A
  simp only at hA hAz ⊢
  refine call_lend ?_
  simp only [go_sem]
  refine callN.eq (ok11 A1 A1) (by simp only [go_sem]) ?_
  simp only [go_sem]
  try simp only [go_sem]
  refine call_lend ?_
  simp only [go_sem]
  refine callN.eq (ok12 A2 A2) (by simp only [go_sem]) ?_
  simp only [go_sem]
  try simp only [go_sem, bne_self_eq_false]
  refine call_lend ?_
  simp only [go_sem]
  refine callN.eq (ok8 b hz) (by simp only [go_sem]) ?_
  simp only [go_sem]
  refine call_lend ?_
  simp only [go_sem]
  refine callN.eq (ok11 b b) (by simp only [go_sem]) ?_
  simp only [go_sem]
  try simp only [go_sem, bne_self_eq_false]
  refine call_lend ?_
  simp only [go_sem]
  refine callN.eq (ok9 l hl) (by simp only [go_sem]) ?_
  simp only [go_sem]
  refine call_lend ?_
  simp only [go_sem]
  refine callN.eq (ok13 l l) (by simp only [go_sem]) ?_
  simp only [go_sem]
  try simp only [go_sem, bne_self_eq_false]
  refine call_give 0 8 [.idx 0] rfl rfl rfl (by simp only [go_sem]; rfl) (by simp only [go_sem, List.getElem?_cons_zero, List.getElem?_cons_succ]) (by simp only [go_sem]) (by simp only [go_sem]) (by simp only [go_sem]) ?_
  simp only [go_sem, List.set]
  refine callW.eq (ok14 b 1 (by omega) (by omega)) ?_
  simp only [go_sem]
  refine ⟨⟨iM_len _ _, iM_len _ _⟩, ?_⟩
  refine call_give 0 9 [] rfl rfl rfl (by simp only [go_sem]; rfl) (by simp only [go_sem, List.getElem?_cons_zero, List.getElem?_cons_succ]) (by simp only [go_sem]) (by simp only [go_sem]) (by simp only [go_sem]) ?_
  simp only [go_sem, List.set]
  refine callW.eq (okI15 l (1 + b.money.length + b.counts.length) (by omega) (by omega)) ?_
  simp only [go_sem]
  refine ⟨sM_len _ _, ?_⟩
  have n3 : ¬ (1 + (b.money.length : Int) + (b.counts.length : Int) + (l.length : Int) < 0) := by omega
  try simp only [go_sem, n3]
  refine call_lend ?_
  simp only [go_sem]
  refine callN.eq (ok11 A1 A1) (by simp only [go_sem]) ?_
  simp only [go_sem]
  try simp only [go_sem, bne_self_eq_false]
  refine call_lend ?_
  simp only [go_sem]
  refine callN.eq (ok12 A2 A2) (by simp only [go_sem]) ?_
  simp only [go_sem]
  try simp only [go_sem, bne_self_eq_false]
  refine call_give 0 10 [.idx 0] rfl rfl rfl (by simp only [go_sem]; rfl) (by simp only [go_sem, List.getElem?_cons_zero, List.getElem?_cons_succ]) (by simp only [go_sem]) (by simp only [go_sem]) (by simp only [go_sem]) ?_
  simp only [go_sem, List.set]
  refine callW.eq (ok14 A1 1 (by omega) (by omega)) ?_
  simp only [go_sem]
  refine ⟨⟨iM_len _ _, iM_len _ _⟩, ?_⟩
  refine call_give 0 11 [] rfl rfl rfl (by simp only [go_sem]; rfl) (by simp only [go_sem, List.getElem?_cons_zero, List.getElem?_cons_succ]) (by simp only [go_sem]) (by simp only [go_sem]) (by simp only [go_sem]) ?_
  simp only [go_sem, List.set]
  refine callW.eq (okI16 A2 (1 + A1.money.length + A1.counts.length) (by omega) (by omega)) ?_
  simp only [go_sem]
  refine ⟨iM_len _ _, ?_⟩
  refine call_lend ?_
  simp only [go_sem]
  refine callN.eq (ok17 A1 1 (by omega) (by omega)) (by simp only [go_sem]) ?_
  simp only [go_sem]
  have n4 : ¬ (1 + (A1.money.length : Int) + (A1.counts.length : Int) < 0) := by omega
  try simp only [go_sem, n4]
  refine call_lend ?_
  simp only [go_sem]
  refine callN.eq (okI18 A2 (1 + A1.money.length + A1.counts.length) (by omega) (by omega)) (by simp only [go_sem]) ?_
  simp only [go_sem]
  have n5 : ¬ (1 + (A1.money.length : Int) + (A1.counts.length : Int) + (A2.length : Int) < 0) := by omega
  try simp only [go_sem, n5, bne_self_eq_false]
  refine call_lend ?_
  simp only [go_sem]
  refine callN.eq (ok8 b hz) (by simp only [go_sem]) ?_
  simp only [go_sem]
  refine call_lend ?_
  simp only [go_sem]
  refine callN.eq (ok9 l hl) (by simp only [go_sem]) ?_
  simp only [go_sem]
  refine call_lend ?_
  simp only [go_sem]
  refine callN.eq (ok10 b l (by omega) (by omega) hl hs) (by simp only [go_sem]) ?_
  simp only [go_sem]
  simp only [← eA]
  refine call_lend ?_
  simp only [go_sem]
  refine callN.eq (ok11 A1 A1) (by simp only [go_sem]) ?_
  simp only [go_sem]
  try simp only [go_sem, bne_self_eq_false]
  refine call_lend ?_
  simp only [go_sem]
  refine callN.eq (ok12 A2 A2) (by simp only [go_sem]) ?_
  simp only [go_sem]
  try simp only [go_sem, bne_self_eq_false]
  refine call_lend ?_
  simp only [go_sem]
  refine callN.eq (ok17 A1 1 (by omega) (by omega)) (by simp only [go_sem]) ?_
  simp only [go_sem]
  try simp only [go_sem, n4]
  refine call_lend ?_
  simp only [go_sem]
  refine callN.eq (okI18 A2 (1 + A1.money.length + A1.counts.length) (by omega) (by omega)) (by simp only [go_sem]) ?_
  simp only [go_sem]
  try simp only [go_sem, n5, bne_self_eq_false]
  try trivial
end Go.VS
