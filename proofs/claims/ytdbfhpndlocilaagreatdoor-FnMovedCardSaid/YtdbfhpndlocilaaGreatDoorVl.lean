/- VS: functions by the machine. -/
import Derived.Test.YtdbfhpndlocilaaGreatDoorVk
set_option linter.unusedSimpArgs false
set_option linter.unusedVariables false
open Go.Proofs Go.RowKit
set_option maxRecDepth 20000
namespace Go.VS
theorem f7_at : gz.P.funcs[7]? = some Tryz.f7 := by
  have h : Tryz.prog.funcs[7]? = some Tryz.f7 := by kernel_rfl
  exact h
theorem f18_at : gz.P.funcs[18]? = some Tryz.f18 := by
  have h : Tryz.prog.funcs[18]? = some Tryz.f18 := by kernel_rfl
  exact h
theorem f19_at : gz.P.funcs[19]? = some Tryz.f19 := by
  have h : Tryz.prog.funcs[19]? = some Tryz.f19 := by kernel_rfl
  exact h
theorem f6_at : gz.P.funcs[6]? = some Tryz.f6 := by
  have h : Tryz.prog.funcs[6]? = some Tryz.f6 := by kernel_rfl
  exact h
def Bnk.one (b : Bnk) (m : Mv) : Bnk × Int := if b.ok = true ∧ m.ok = true then b.mv m else (⟨[], []⟩, 1)
theorem Bnk.one_good {b : Bnk} {m : Mv} (hb : b.ok = true) (hm : m.ok = true) : b.one m = b.mv m := if_pos ⟨hb, hm⟩
theorem Bnk.one_b {b : Bnk} {m : Mv} (hb : b.ok = false) : b.one m = (⟨[], []⟩, 1) := if_neg (by rw [hb]; simp)
theorem Bnk.one_m {b : Bnk} {m : Mv} (hm : m.ok = false) : b.one m = (⟨[], []⟩, 1) := if_neg (by rw [hm]; simp)
def Bnk.tot (b : Bnk) : Int := if b.ok = true then b.money.sum else -1
theorem Bnk.tot_good {b : Bnk} (hb : b.ok = true) : b.tot = b.money.sum := if_pos hb
theorem Bnk.tot_bad {b : Bnk} (hb : b.ok = false) : b.tot = -1 := if_neg (by rw [hb]; simp)
theorem ok7 (b : Bnk) (m : Mv) (h1 : b.money.length ≤ 1048576) (h2 : b.counts.length ≤ 1048576) : VCalls gz 7 [b.enc false, m.enc] none (fun y _ => y = .tup [(b.one m).1.enc true, .lit (.int .i64 (b.one m).2)]) := by
  refine VCalls.go (nt := 24) (keep := [0, 1, 2, 3, 4, 5, 6, 7, 15]) (muts := []) (mvs := []) [] f7_at rfl (by kernel_rfl) rfl (by kernel_rfl) rfl (fun i h => by cases h) rfl ?_
  intro hok
  simp only [go_sem] at hok
  simp only [Tryz.f7, Func.code, Option.getD_some]
  simp only [go_sem]
  refine call_lend ?_
  simp only [go_sem]
  refine callN.eq (ok12 b) (by simp only [go_sem]) ?_
  simp only [go_sem]
  cases h : b.ok
  · rw [Bnk.one_b h]
    simp only [go_sem]
    try trivial
  simp only [go_sem]
  refine call_lend ?_
  simp only [go_sem]
  refine callN.eq (ok14 m) (by simp only [go_sem]) ?_
  simp only [go_sem]
  cases hm : m.ok
  · rw [Bnk.one_m hm]
    simp only [go_sem]
    try trivial
  rw [Bnk.one_good h hm]
  have hl := Bnk.mv_len (b := b) (m := m)
  simp only [go_sem]
  refine call_lend ?_
  simp only [go_sem]
  refine callN.eq (ok39 b h1 h2) (by simp only [go_sem]) ?_
  simp only [go_sem]
  refine call_give 0 6 [.idx 0] rfl rfl rfl (by simp only [go_sem]; rfl) (by simp only [go_sem, List.getElem?_cons_zero, List.getElem?_cons_succ]) (by simp only [go_sem]) (by simp only [go_sem]) (by simp only [go_sem]) ?_
  simp only [go_sem, List.set]
  refine callW.eq (ok40 b m h hm) ?_
  simp only [go_sem]
  exact hl
theorem ok210 (b : Bnk) (m : Mv) : VCalls gz 10 [b.enc false, m.enc] none (fun y _ => y = .tup [(b.one m).1.enc true, .lit (.int .i64 (b.one m).2)]) := by
  cases h : b.ok
  · rw [Bnk.one_b h]
    refine VCalls.go (nt := 81) (keep := [0, 1, 2, 3, 4, 5, 6, 14, 18, 29]) (muts := []) (mvs := []) [(4, .tree true (.take 0 (.take 1 (.take 2 (.take 3 (.take 4 (.take 5 (.take 6 (.take 7 (.take 8 (.all (.cons 9 .done .nil)))))))))))), (6, .tree true (.take 0 (.take 1 (.take 2 (.take 3 (.take 4 (.take 5 (.take 6 (.take 7 (.take 8 (.all (.cons 9 .done .nil)))))))))))), (8, .tree true (.take 0 (.take 1 (.take 2 (.take 3 (.take 4 (.take 5 (.take 6 (.take 7 (.take 8 (.take 9 (.take 10 (.take 11 (.take 12 (.take 13 (.last 14)))))))))))))))), (9, .tree true (.take 0 (.take 1 (.take 2 (.take 3 (.take 4 (.take 5 (.take 6 (.take 7 (.take 8 (.take 9 (.take 10 (.take 11 (.take 12 (.take 13 (.last 14)))))))))))))))), (10, .tree true (.take 0 (.take 1 (.take 2 (.take 3 (.take 4 (.take 5 (.take 6 (.take 7 (.take 8 (.take 9 (.take 10 (.take 11 (.last 12))))))))))))))] f10_at rfl (by kernel_rfl) rfl (by kernel_rfl) rfl (fun i h => by cases h) rfl ?_
    intro hok
    simp only [go_sem] at hok
    simp only [Tryz.f10, Func.code, Option.getD_some]
    simp only [go_sem]
    refine call_lend ?_
    simp only [go_sem]
    refine callN.eq (ok13 b) (by simp only [go_sem]) ?_
    simp only [go_sem]
    simp only [go_sem, h]
    try trivial
  cases hm : m.ok
  · rw [Bnk.one_m hm]
    refine VCalls.go (nt := 81) (keep := [0, 1, 2, 3, 4, 5, 6, 14, 18, 29]) (muts := []) (mvs := []) [(4, .tree true (.take 0 (.take 1 (.take 2 (.take 3 (.take 4 (.take 5 (.take 6 (.take 7 (.take 8 (.all (.cons 9 .done .nil)))))))))))), (6, .tree true (.take 0 (.take 1 (.take 2 (.take 3 (.take 4 (.take 5 (.take 6 (.take 7 (.take 8 (.all (.cons 9 .done .nil)))))))))))), (8, .tree true (.take 0 (.take 1 (.take 2 (.take 3 (.take 4 (.take 5 (.take 6 (.take 7 (.take 8 (.take 9 (.take 10 (.take 11 (.take 12 (.take 13 (.last 14)))))))))))))))), (9, .tree true (.take 0 (.take 1 (.take 2 (.take 3 (.take 4 (.take 5 (.take 6 (.take 7 (.take 8 (.take 9 (.take 10 (.take 11 (.take 12 (.take 13 (.last 14)))))))))))))))), (10, .tree true (.take 0 (.take 1 (.take 2 (.take 3 (.take 4 (.take 5 (.take 6 (.take 7 (.take 8 (.take 9 (.take 10 (.take 11 (.last 12))))))))))))))] f10_at rfl (by kernel_rfl) rfl (by kernel_rfl) rfl (fun i h => by cases h) rfl ?_
    intro hok
    simp only [go_sem] at hok
    simp only [Tryz.f10, Func.code, Option.getD_some]
    simp only [go_sem]
    refine call_lend ?_
    simp only [go_sem]
    refine callN.eq (ok13 b) (by simp only [go_sem]) ?_
    simp only [go_sem]
    simp only [go_sem, h]
    refine call_lend ?_
    simp only [go_sem]
    refine callN.eq (ok15 m) (by simp only [go_sem]) ?_
    simp only [go_sem]
    simp only [go_sem, hm]
    try trivial
  rw [Bnk.one_good h hm]
  exact ok10 b m h hm
theorem ok18 (b : Bnk) : VCalls gz 18 [b.enc false] none (fun y _ => y = .lit (.int .i64 b.tot)) := by
  refine VCalls.go (nt := 9) (keep := [0, 1, 2, 5]) (muts := []) (mvs := []) [] f18_at rfl (by kernel_rfl) rfl (by kernel_rfl) rfl (fun i h => by cases h) rfl ?_
  intro hok
  simp only [go_sem] at hok
  simp only [Tryz.f18, Func.code, Option.getD_some]
  simp only [go_sem]
  refine call_lend ?_
  simp only [go_sem]
  refine callN.eq (ok12 b) (by simp only [go_sem]) ?_
  simp only [go_sem]
  cases h : b.ok
  · rw [Bnk.tot_bad h]
    simp only [go_sem]
    try trivial
  rw [Bnk.tot_good h]
  obtain ⟨⟨k1, k2⟩, _, _⟩ := Bnk.ok_iff.1 h
  simp only [go_sem]
  refine call_lend ?_
  simp only [go_sem]
  refine callN.eq (ok47 b.money k1 k2) (by simp only [go_sem]) ?_
  simp only [go_sem]
  try trivial
theorem ok19 (b : Bnk) : VCalls gz 19 [b.enc false] none (fun y _ => y = .lit (.int .i64 b.tot)) := by
  refine VCalls.go (nt := 20) (keep := [0, 1, 2, 3, 4, 7, 9]) (muts := []) (mvs := []) [] f19_at rfl (by kernel_rfl) rfl (by kernel_rfl) rfl (fun i h => by cases h) rfl ?_
  intro hok
  simp only [go_sem] at hok
  simp only [Tryz.f19, Func.code, Option.getD_some]
  simp only [go_sem]
  refine call_lend ?_
  simp only [go_sem]
  refine callN.eq (ok13 b) (by simp only [go_sem]) ?_
  simp only [go_sem]
  cases h : b.ok
  · rw [Bnk.tot_bad h]
    simp only [go_sem]
    try trivial
  rw [Bnk.tot_good h]
  obtain ⟨⟨k1, k2⟩, _, _⟩ := Bnk.ok_iff.1 h
  simp only [go_sem]
  refine vm_loopK (α := Nat) (fun i => [(1, .ptr true (b.enc false)), (3, .lit (.int .i64 (b.money.take i).sum)), (4, .lit (.int .i64 i))]) (fun i => i ≤ b.money.length) (fun i => b.money.length - i) 0 ?_ (by omega) (by kernel_rfl) (fun _ => rfl) ?_
  · simp only [go_sem, List.take_zero, List.sum_nil]
    try trivial
  · intro i hi hk
    have hsr := sum_rng (xs := b.money) i (by omega) fun j hj => k2 _ (getD_mem (by omega))
    simp only [go_sem]
    by_cases hlt : i < b.money.length
    · have h0 : (0 : Int) ≤ (i : Int) := by omega
      have h6 : (i : Int) < 8 := by omega
      have h7 : (i : Int) < (b.money.length : Int) := by omega
      have hv := k2 _ (getD_mem hlt)
      have hw3 : IntKind.i64.wrap ((i : Int) + 1) = ((i + 1 : Nat) : Int) := by rw [wrap64 (by omega) (by omega)]; omega
      have hw4 : IntKind.i64.wrap ((b.money.take i).sum + b.money.getD i default) = (b.money.take (i + 1)).sum := by rw [sum_take hlt, wrap64 (by omega) (by omega)]
      simp only [go_sem, h0, hlt, h6, h7, hw3, hw4]
      refine again_intro (i + 1) (by omega) (by omega) ?_
      simp only [go_sem]
      try trivial
    · have hie : i = b.money.length := by omega
      have h6 : ¬ (i : Int) < 8 := by omega
      subst hie
      simp only [go_sem, h6, List.take_length]
      try trivial
set_option maxHeartbeats 4000000 in
theorem ok6 (l : List UInt8) : VCalls gz 6 [.lst false 1 (l.map byteA)] none (fun y _ => ∃ (b : Bnk) (m : Mv), y = .tup [b.enc false, m.enc] ∧ b.sml) := by
  refine VCalls.go (nt := 36) (keep := [0, 2, 3, 4, 5, 6, 26]) (muts := []) (mvs := [6,2034]) [(6, .tree false (.all (.cons 0 (.all (.cons 1 (.all (.cons 2 (.all (.cons 3 .done .nil)) .nil)) (.cons 2 (.all (.cons 1 (.all (.cons 3 .done .nil)) .nil)) .nil))) (.cons 1 (.all (.cons 0 (.all (.cons 2 (.all (.cons 3 .done .nil)) .nil)) .nil)) .nil))))] f6_at rfl (by kernel_rfl) rfl (by kernel_rfl) rfl (fun i h => by cases h) rfl ?_
  intro hok
  simp only [go_sem] at hok
  simp only [Tryz.f6, Func.code, Option.getD_some]
  simp only [go_sem]
  refine call_share ?_
  simp only [go_sem]
  refine callS.use (ok34 l) ?_
  rintro _ _ ⟨h0, rfl⟩
  simp only [go_sem]
  refine call_mut 0 4 rfl rfl rfl (by simp only [go_sem]) ?_
  simp only [go_sem, List.set]
  refine callM.use (ok35 (Cur.mk l 0 h0) (Int.le_refl 0)) ?_
  rintro _ _ ⟨B0, o0, i1, e1, rfl, ⟨s1, s2⟩, p1, rfl⟩
  cases o0
  all_goals
    simp only [go_sem]
    refine call_mut 0 4 rfl rfl rfl (by simp only [go_sem]) ?_
    simp only [go_sem, List.set]
    refine callM.use ((ok36 (Cur.mk l i1 e1) p1)) ?_
    rintro _ _ ⟨m, i3, e3, rfl, r1, rfl⟩
    simp only [go_sem]
    by_cases g : (B0.counts.length : Int) = 8
    rotate_left
    · simp only [go_sem, g]
      exact fun _ => ⟨B0, m, ⟨⟨rfl, rfl⟩, rfl, rfl, rfl, rfl⟩, s1, s2⟩
    simp only [go_sem, eq_true g]
    intro hlen
    refine call_lend ?_
    simp only [go_sem]
    refine callN.eq (ok37 m.src 0 7) (by simp only [go_sem]) ?_
    simp only [go_sem]
    by_cases q : 0 ≤ m.src ∧ m.src ≤ 7
    rotate_left
    · simp only [go_sem, q]
      exact ⟨B0, m, ⟨⟨rfl, rfl⟩, rfl, rfl, rfl, rfl⟩, s1, s2⟩
    simp only [go_sem, eq_true q]
    refine call_mut 0 4 rfl rfl rfl (by simp only [go_sem]) ?_
    simp only [go_sem, List.set]
    refine callM.use ((ok38 (Cur.mk l i3 e3) r1 4)) ?_
    rintro _ _ ⟨b4, i4, e4, rfl, r2, rfl⟩
    simp only [go_sem]
    cases b4
    · obtain ⟨q1, q2⟩ := q
      have n1 : m.src < (B0.counts.length : Int) := by omega
      have n2 : m.src.toNat < B0.counts.length := by omega
      simp only [go_sem, q1, n1, n2]
      exact ⟨B0, ⟨m.src, m.dst, m.sum, B0.counts.getD m.src.toNat default⟩, ⟨⟨rfl, rfl⟩, rfl, rfl, rfl, rfl⟩, s1, s2⟩
    · simp only [go_sem]
      exact ⟨B0, m, ⟨⟨rfl, rfl⟩, rfl, rfl, rfl, rfl⟩, s1, s2⟩
end Go.VS
