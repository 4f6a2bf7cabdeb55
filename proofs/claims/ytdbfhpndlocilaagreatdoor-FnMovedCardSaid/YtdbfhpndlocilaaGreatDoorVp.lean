/- VS: functions by the machine. -/
import Derived.Test.YtdbfhpndlocilaaGreatDoorVl
import Derived.Test.YtdbfhpndlocilaaGreatDoorVk
import Derived.Test.YtdbfhpndlocilaaGreatDoorVi
set_option linter.unusedSimpArgs false
set_option linter.unusedVariables false
open Go.Proofs Go.RowKit
set_option maxRecDepth 20000
namespace Go.VS
theorem f3_at : gz.P.funcs[3]? = some Tryz.f3 := by
  have h : Tryz.prog.funcs[3]? = some Tryz.f3 := by kernel_rfl
  exact h
theorem Bnk.put_from {b : Bnk} {m : Mv} (hb : b.ok = true) (hm : m.ok = true) : (b.put m).money.getD m.src.toNat default = (if m.src = m.dst then b.money.getD m.src.toNat default else b.money.getD m.src.toNat default - m.sum) ∧ (b.put m).counts.getD m.src.toNat default = b.counts.getD m.src.toNat default + 1 := by
  obtain ⟨⟨h1, h2⟩, ⟨h3, h4⟩, h5⟩ := Bnk.ok_iff.1 hb
  obtain ⟨m1, m2, m3, m4⟩ := Mv.ok_iff.1 hm
  have e (xs : List Int) (i k : Nat) (v : Int) (hk : k < xs.length) : (xs.set i v).getD k default = if i = k then v else xs.getD k default := by
    simp only [List.getD_eq_getElem?_getD, List.getElem?_set]
    by_cases h : i = k
    · subst h
      simp [hk]
    · simp [h]
  refine ⟨?_, ?_⟩
  · show ((b.money.set m.src.toNat (b.money.getD m.src.toNat default - m.sum)).set m.dst.toNat ((b.money.set m.src.toNat (b.money.getD m.src.toNat default - m.sum)).getD m.dst.toNat default + m.sum)).getD m.src.toNat default = _
    rw [e _ _ _ _ (by rw [List.length_set]; omega), e _ _ _ _ (by omega), e _ _ _ _ (by omega)]
    by_cases h : m.src = m.dst
    · rw [if_pos (by rw [h]), if_pos (by rw [h]), if_pos h]
      omega
    · rw [if_neg (by omega), if_pos rfl, if_neg h]
  · show (b.counts.set m.src.toNat (b.counts.getD m.src.toNat default + 1)).getD m.src.toNat default = _
    rw [e _ _ _ _ (by omega), if_pos rfl]
theorem Bnk.ans_tot {b : Bnk} (hb : b.ok = true) (l : List ByteArray) : (b.ans l).1.ok = true ∧ (b.ans l).1.tot = b.tot ∧ (b.ans l).2.length = l.length := by
  have e : b.ans l = b.run l l.length := if_pos hb
  have h := Bnk.run_ok hb l l.length
  have hr := Bnk.run_len b l l.length
  rw [e, Bnk.tot_good h.1, Bnk.tot_good hb]
  exact ⟨h.1, h.2, hr⟩
theorem Bnk.one_cases (b : Bnk) (m : Mv) : (b.one m = (⟨[], []⟩, 1)) ∨ (b.one m = (b, 2) ∨ b.one m = (b, 3)) ∨ (b.ok = true ∧ m.ok = true ∧ b.one m = (b.put m, 0) ∧ (b.put m).one m = (b.put m, 2) ∧ (b.put m).ok = true ∧ (b.put m).tot = b.tot) := by
  cases h : b.ok
  · exact .inl (Bnk.one_b h)
  cases hm : m.ok
  · exact .inl (Bnk.one_m hm)
  refine .inr ?_
  rw [Bnk.one_good h hm]
  unfold Bnk.mv
  by_cases g1 : m.cnt = b.counts.getD m.src.toNat default
  rotate_left
  · rw [if_pos g1]
    exact .inl (.inl rfl)
  rw [if_neg (not_not_intro g1)]
  by_cases g2 : b.money.getD m.src.toNat default < m.sum
  · rw [if_pos g2]
    exact .inl (.inr rfl)
  rw [if_neg g2]
  have k := Bnk.put_ok h hm g1 g2
  have kf := Bnk.put_from h hm
  refine .inr ⟨rfl, rfl, rfl, ?_, k.1, by rw [Bnk.tot_good k.1, Bnk.tot_good h]; exact k.2⟩
  rw [Bnk.one_good k.1 hm]
  unfold Bnk.mv
  rw [if_pos (by rw [kf.2]; omega)]
set_option maxHeartbeats 8000000 in
theorem ok3 (l : List UInt8) : VCalls gz 3 [.lst false 1 (l.map byteA)] none (fun y _ => y = .lit (.bool true)) := by
  refine VCalls.go (nt := 196) (keep := [0, 2, 3, 4, 5, 6, 7, 8, 9, 10, 11, 12, 13, 14, 16, 17, 19, 70, 99, 120, 122, 127, 150]) (muts := []) (mvs := [3,4,5,6,7,10,19]) [(8, .tree true (.take 0 (.take 1 (.take 2 (.take 3 (.take 4 (.take 5 (.all (.cons 6 (.take 7 (.take 8 (.take 9 (.take 10 (.take 12 (.all (.cons 11 (.all (.cons 13 (.take 14 (.take 15 (.take 16 (.take 17 (.take 19 (.all (.cons 18 (.all (.cons 20 (.take 21 (.take 22 .done)) .nil)) .nil))))))) .nil)) .nil))))))) .nil))))))))), (11, .tree true (.take 0 (.take 1 (.all (.cons 2 (.take 3 (.take 4 (.take 5 (.take 6 (.all (.cons 7 (.take 8 (.take 9 (.take 10 (.take 11 (.take 13 (.all (.cons 12 (.all (.cons 14 (.take 15 (.take 16 (.take 17 (.all (.cons 18 (.all (.cons 19 (.all (.cons 20 (.take 21 (.take 22 .done)) .nil)) .nil)) .nil))))) .nil)) .nil))))))) .nil)))))) .nil))))), (13, .tree true (.take 0 (.all (.cons 1 (.take 2 (.take 3 (.take 5 (.all (.cons 4 (.all (.cons 6 (.take 7 (.take 8 (.take 9 (.all (.cons 10 (.take 11 (.take 12 (.take 13 (.take 14 (.take 15 (.take 16 (.take 17 (.take 18 (.take 19 (.take 20 .done)))))))))) .nil))))) .nil)) .nil))))) .nil)))), (20, .tree true (.take 0 (.take 1 (.take 2 (.take 3 (.take 4 (.take 5 (.take 6 (.take 7 (.take 8 (.all (.cons 9 .done .nil)))))))))))), (23, .tree true (.take 0 (.all (.cons 1 (.take 2 (.take 3 (.take 5 (.all (.cons 4 (.all (.cons 6 (.take 7 (.take 8 (.take 9 (.take 10 (.take 11 (.take 12 (.take 13 (.take 14 (.take 15 (.take 16 (.take 17 (.take 18 (.take 19 (.take 20 (.take 21 (.take 22 (.take 23 (.take 24 (.take 25 (.take 26 (.take 27 (.take 28 (.take 29 (.take 30 (.take 31 (.take 32 (.take 33 (.take 34 (.take 35 (.take 36 (.take 37 (.take 38 (.all (.cons 39 .done .nil)))))))))))))))))))))))))))))))))) .nil)) .nil))))) .nil))))] f3_at rfl (by kernel_rfl) rfl (by kernel_rfl) rfl (fun i h => by cases h) rfl ?_
  intro hok
  simp only [go_sem] at hok
  simp only [Tryz.f3, Func.code, Option.getD_some]
  simp only [go_sem]
  refine call_lend ?_
  simp only [go_sem]
  refine callN.eq (ok5 l) (by simp only [go_sem]) ?_
  simp only [go_sem]
  first | refine branch_ndec (fun h0 => ?_) (fun h0 => ?_) | refine branch_dec (fun h0 => ?_) (fun h0 => ?_) | refine branch_nbool (fun h0 => ?_) (fun h0 => ?_) | refine branch_split (fun h0 => ?_) (fun h0 => ?_)
  · simp only [go_sem]
    try trivial
  simp only [go_sem]
  refine call_share ?_
  simp only [go_sem]
  refine callS.use (ok6 l) ?_
  rintro _ _ ⟨b, m, rfl, b1, b2⟩
  simp only [go_sem]
  have hcase := Bnk.one_cases b m
  have k1 := ok7 b m (by omega) (by omega)
  have k2 := ok210 b m
  have hXl : (b.one m).1.money.length ≤ 8 ∧ (b.one m).1.counts.length ≤ 8 := by
    rcases hcase with h | (h | h) | ⟨h1, h2, h, _⟩
    · rw [h]; exact ⟨by simp, by simp⟩
    · rw [h]; exact ⟨b1, b2⟩
    · rw [h]; exact ⟨b1, b2⟩
    · have := Bnk.mv_len (b := b) (m := m)
      rw [← Bnk.one_good h1 h2] at this
      omega
  obtain ⟨X, hX⟩ : ∃ X, X = b.one m := ⟨_, rfl⟩
  rw [← hX] at k1 k2 hcase hXl
  refine call_lend ?_
  simp only [go_sem]
  refine callN.eq (k1) (by simp only [go_sem]) ?_
  simp only [go_sem]
  refine call_share ?_
  simp only [go_sem]
  refine callS.use (ok8 l) ?_
  rintro _ _ ⟨a, ms, rfl, ⟨a1, a2⟩, ms1, ms2⟩
  simp only [go_sem]
  have hms : ∀ s ∈ ms, s.size ≤ 4000000 := fun s hs => by have := ms2 s hs; omega
  have k3 := ok9 a ms (by omega) (by omega) (by omega) hms
  have k4 := ok16 a ms (by omega) (by omega) (by omega) hms
  have ht := fun h => Bnk.ans_tot (b := a) h ms
  have hl := Bnk.ans_len a ms
  obtain ⟨A, hA⟩ : ∃ A, A = a.ans ms := ⟨_, rfl⟩
  rw [← hA] at k3 k4 ht hl
  refine call_lend ?_
  simp only [go_sem]
  refine callN.eq (k3) (by simp only [go_sem]) ?_
  simp only [go_sem]
  refine call_lend ?_
  simp only [go_sem]
  refine callN.eq (k2) (by simp only [go_sem]) ?_
  simp only [go_sem]
  try simp only [go_sem, bne_self_eq_false]
  refine call_lend ?_
  simp only [go_sem]
  refine callN.eq (ok11 X.1 X.1) (by simp only [go_sem]) ?_
  simp only [go_sem]
  try simp only [go_sem, eq_self_iff_true, decide_true]
  refine call_lend ?_
  simp only [go_sem]
  refine callN.eq (ok12 b) (by simp only [go_sem]) ?_
  simp only [go_sem]
  refine call_lend ?_
  simp only [go_sem]
  refine callN.eq (ok13 b) (by simp only [go_sem]) ?_
  simp only [go_sem]
  try simp only [go_sem, bne_self_eq_false]
  refine call_lend ?_
  simp only [go_sem]
  refine callN.eq (ok14 m) (by simp only [go_sem]) ?_
  simp only [go_sem]
  refine call_lend ?_
  simp only [go_sem]
  refine callN.eq (ok15 m) (by simp only [go_sem]) ?_
  simp only [go_sem]
  try simp only [go_sem, bne_self_eq_false]
  refine call_lend ?_
  simp only [go_sem]
  refine callN.eq (k4) (by simp only [go_sem]) ?_
  simp only [go_sem]
  try simp only [go_sem]
  refine call_lend ?_
  simp only [go_sem]
  refine callN.eq (ok17 A.2 A.2) (by simp only [go_sem]) ?_
  simp only [go_sem]
  try simp only [go_sem]
  refine call_lend ?_
  simp only [go_sem]
  refine callN.eq (ok11 A.1 A.1) (by simp only [go_sem]) ?_
  simp only [go_sem]
  try simp only [go_sem]
  refine call_lend ?_
  simp only [go_sem]
  refine callN.eq (ok18 a) (by simp only [go_sem]) ?_
  simp only [go_sem]
  refine call_lend ?_
  simp only [go_sem]
  refine callN.eq (ok19 a) (by simp only [go_sem]) ?_
  simp only [go_sem]
  try simp only [go_sem, bne_self_eq_false]
  refine call_lend ?_
  simp only [go_sem]
  refine callN.eq (ok20) (by simp only [go_sem]) ?_
  simp only [go_sem]
  refine call_lend ?_
  simp only [go_sem]
  refine callN.eq (ok21) (by simp only [go_sem]) ?_
  simp only [go_sem]
  refine call_lend ?_
  simp only [go_sem]
  refine callN.eq (ok11 ⟨List.replicate 8 1000, List.replicate 8 0⟩ ⟨List.replicate 8 1000, List.replicate 8 0⟩) (by simp only [go_sem]) ?_
  simp only [go_sem]
  try simp only [go_sem]
  refine call_lend ?_
  simp only [go_sem]
  refine callN.eq (ok13 a) (by simp only [go_sem]) ?_
  simp only [go_sem]
  cases ha : a.ok
  · simp only [go_sem]
    rcases hcase with rfl | (rfl | rfl) | ⟨hb, hm, rfl, hone, hok, htot⟩
    · simp only [go_sem]
      refine call_lend ?_
      simp only [go_sem]
      refine callN.eq (ok11 ⟨[], []⟩ ⟨[], []⟩) (by simp only [go_sem]) ?_
      simp only [go_sem]
      try trivial
    · simp only [go_sem]
      refine call_lend ?_
      simp only [go_sem]
      refine callN.eq (ok11 b b) (by simp only [go_sem]) ?_
      simp only [go_sem]
      try trivial
    · simp only [go_sem]
      refine call_lend ?_
      simp only [go_sem]
      refine callN.eq (ok11 b b) (by simp only [go_sem]) ?_
      simp only [go_sem]
      try trivial
    · have k5 := ok7 (b.put m) m (by simp only at hXl; omega) (by simp only at hXl; omega)
      rw [hone] at k5
      obtain ⟨⟨h1, h2⟩, ⟨h3, h4⟩, h5⟩ := Bnk.ok_iff.1 hb
      obtain ⟨m1, m2, m3, m4⟩ := Mv.ok_iff.1 hm
      have q1 : (0 : Int) ≤ m.src := m1.1
      have q2 : m.src < (b.counts.length : Int) := by omega
      have q3 : m.src.toNat < b.counts.length := by omega
      have q4 : m.src < (b.money.length : Int) := by omega
      have q5 : m.src.toNat < b.money.length := by omega
      have z1 := h2 _ (getD_mem q5)
      have z3 := h4 _ (getD_mem q3)
      have w1 : IntKind.i64.wrap (b.money.getD m.src.toNat default - m.sum) = b.money.getD m.src.toNat default - m.sum := wrap64 (by omega) (by omega)
      have w3 : IntKind.i64.wrap (b.counts.getD m.src.toNat default + 1) = b.counts.getD m.src.toNat default + 1 := wrap64 (by omega) (by omega)
      obtain ⟨pf1, pf2⟩ := Bnk.put_from hb hm
      have p1 : (b.put m).money.length = b.money.length := by simp only [Bnk.put, List.length_set]
      have p2 : (b.put m).counts.length = b.counts.length := by simp only [Bnk.put, List.length_set]
      simp only [go_sem]
      refine call_lend ?_
      simp only [go_sem]
      refine callN.eq (k5) (by simp only [go_sem]) ?_
      simp only [go_sem]
      simp only [go_sem, q1, q4, q5, w1]
      by_cases e : m.src = m.dst
      · rw [if_pos e] at pf1
        simp only [go_sem, eq_true e, q1, q4, q5]
        refine call_lend ?_
        simp only [go_sem]
        refine callN.eq (ok12 (b.put m)) (by simp only [go_sem]) ?_
        simp only [go_sem]
        simp only [go_sem, hok]
        refine call_lend ?_
        simp only [go_sem]
        refine callN.eq (ok18 (b.put m)) (by simp only [go_sem]) ?_
        simp only [go_sem]
        refine call_lend ?_
        simp only [go_sem]
        refine callN.eq (ok18 b) (by simp only [go_sem]) ?_
        simp only [go_sem]
        simp only [go_sem, htot, p1, p2, pf1, pf2, q1, q2, q3, q4, q5, w3]
        try trivial
      · rw [if_neg e] at pf1
        simp only [go_sem, e, q1, q4, q5]
        refine call_lend ?_
        simp only [go_sem]
        refine callN.eq (ok12 (b.put m)) (by simp only [go_sem]) ?_
        simp only [go_sem]
        simp only [go_sem, hok]
        refine call_lend ?_
        simp only [go_sem]
        refine callN.eq (ok18 (b.put m)) (by simp only [go_sem]) ?_
        simp only [go_sem]
        refine call_lend ?_
        simp only [go_sem]
        refine callN.eq (ok18 b) (by simp only [go_sem]) ?_
        simp only [go_sem]
        simp only [go_sem, htot, p1, p2, pf1, pf2, q1, q2, q3, q4, q5, w3]
        try trivial
  · obtain ⟨t1, t2, t3⟩ := ht ha
    have t4 : (A.2.length : Int) = (ms.length : Int) := by omega
    simp only [go_sem]
    refine call_lend ?_
    simp only [go_sem]
    refine callN.eq (ok18 A.1) (by simp only [go_sem]) ?_
    simp only [go_sem]
    refine call_lend ?_
    simp only [go_sem]
    refine callN.eq (ok18 a) (by simp only [go_sem]) ?_
    simp only [go_sem]
    simp only [go_sem, t2, bne_self_eq_false]
    refine call_lend ?_
    simp only [go_sem]
    refine callN.eq (ok12 A.1) (by simp only [go_sem]) ?_
    simp only [go_sem]
    simp only [go_sem, t1, t4, bne_self_eq_false]
    intro _ _
    rcases hcase with rfl | (rfl | rfl) | ⟨hb, hm, rfl, hone, hok, htot⟩
    · simp only [go_sem]
      refine call_lend ?_
      simp only [go_sem]
      refine callN.eq (ok11 ⟨[], []⟩ ⟨[], []⟩) (by simp only [go_sem]) ?_
      simp only [go_sem]
      try trivial
    · simp only [go_sem]
      refine call_lend ?_
      simp only [go_sem]
      refine callN.eq (ok11 b b) (by simp only [go_sem]) ?_
      simp only [go_sem]
      try trivial
    · simp only [go_sem]
      refine call_lend ?_
      simp only [go_sem]
      refine callN.eq (ok11 b b) (by simp only [go_sem]) ?_
      simp only [go_sem]
      try trivial
    · have k5 := ok7 (b.put m) m (by simp only at hXl; omega) (by simp only at hXl; omega)
      rw [hone] at k5
      obtain ⟨⟨h1, h2⟩, ⟨h3, h4⟩, h5⟩ := Bnk.ok_iff.1 hb
      obtain ⟨m1, m2, m3, m4⟩ := Mv.ok_iff.1 hm
      have q1 : (0 : Int) ≤ m.src := m1.1
      have q2 : m.src < (b.counts.length : Int) := by omega
      have q3 : m.src.toNat < b.counts.length := by omega
      have q4 : m.src < (b.money.length : Int) := by omega
      have q5 : m.src.toNat < b.money.length := by omega
      have z1 := h2 _ (getD_mem q5)
      have z3 := h4 _ (getD_mem q3)
      have w1 : IntKind.i64.wrap (b.money.getD m.src.toNat default - m.sum) = b.money.getD m.src.toNat default - m.sum := wrap64 (by omega) (by omega)
      have w3 : IntKind.i64.wrap (b.counts.getD m.src.toNat default + 1) = b.counts.getD m.src.toNat default + 1 := wrap64 (by omega) (by omega)
      obtain ⟨pf1, pf2⟩ := Bnk.put_from hb hm
      have p1 : (b.put m).money.length = b.money.length := by simp only [Bnk.put, List.length_set]
      have p2 : (b.put m).counts.length = b.counts.length := by simp only [Bnk.put, List.length_set]
      simp only [go_sem]
      refine call_lend ?_
      simp only [go_sem]
      refine callN.eq (k5) (by simp only [go_sem]) ?_
      simp only [go_sem]
      simp only [go_sem, q1, q4, q5, w1]
      by_cases e : m.src = m.dst
      · rw [if_pos e] at pf1
        simp only [go_sem, eq_true e, q1, q4, q5]
        refine call_lend ?_
        simp only [go_sem]
        refine callN.eq (ok12 (b.put m)) (by simp only [go_sem]) ?_
        simp only [go_sem]
        simp only [go_sem, hok]
        refine call_lend ?_
        simp only [go_sem]
        refine callN.eq (ok18 (b.put m)) (by simp only [go_sem]) ?_
        simp only [go_sem]
        refine call_lend ?_
        simp only [go_sem]
        refine callN.eq (ok18 b) (by simp only [go_sem]) ?_
        simp only [go_sem]
        simp only [go_sem, htot, p1, p2, pf1, pf2, q1, q2, q3, q4, q5, w3]
        try trivial
      · rw [if_neg e] at pf1
        simp only [go_sem, e, q1, q4, q5]
        refine call_lend ?_
        simp only [go_sem]
        refine callN.eq (ok12 (b.put m)) (by simp only [go_sem]) ?_
        simp only [go_sem]
        simp only [go_sem, hok]
        refine call_lend ?_
        simp only [go_sem]
        refine callN.eq (ok18 (b.put m)) (by simp only [go_sem]) ?_
        simp only [go_sem]
        refine call_lend ?_
        simp only [go_sem]
        refine callN.eq (ok18 b) (by simp only [go_sem]) ?_
        simp only [go_sem]
        simp only [go_sem, htot, p1, p2, pf1, pf2, q1, q2, q3, q4, q5, w3]
        try trivial
end Go.VS
