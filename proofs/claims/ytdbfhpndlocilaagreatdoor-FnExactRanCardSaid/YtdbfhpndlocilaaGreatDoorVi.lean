/- VS: functions by the machine. -/
import Derived.Test.YtdbfhpndlocilaaGreatDoorVh
import Derived.Test.YtdbfhpndlocilaaGreatDoorVn
import Derived.Test.YtdbfhpndlocilaaGreatDoorVf
set_option linter.unusedSimpArgs false
set_option linter.unusedVariables false
open Go.Proofs Go.RowKit
set_option maxRecDepth 20000
namespace Go.VS
theorem f40_at : gz.P.funcs[40]? = some Tryz.f40 := by
  have h : Tryz.prog.funcs[40]? = some Tryz.f40 := by kernel_rfl
  exact h
theorem f10_at : gz.P.funcs[10]? = some Tryz.f10 := by
  have h : Tryz.prog.funcs[10]? = some Tryz.f10 := by kernel_rfl
  exact h
theorem modify_intE {i : Nat} {xs : List Int} {v : Int} : (xs.map intA).modify i (putF [] (.lit (.int .i64 v))) = (xs.set i v).map intA := modify_enc (f := intA) rfl
theorem tkl {xs : List Int} {n : Nat} (h : xs.length = n) : List.take n xs = xs := by
  rw [← h]
  exact List.take_length
attribute [go_sem] modify_intE List.length_set
set_option maxHeartbeats 2000000 in
theorem ok40 (b : Bnk) (m : Mv) (hb : b.ok = true) (hm : m.ok = true) :
    VMut gz 40 [b.enc true, m.enc] 0 (fun y x' => y = .lit (.int .i64 (b.mv m).2) ∧ x' = (b.mv m).1.enc true) := by
  obtain ⟨⟨h1, h2⟩, ⟨h3, h4⟩, h5⟩ := Bnk.ok_iff.1 hb
  obtain ⟨m1, m2, m3, m4⟩ := Mv.ok_iff.1 hm
  have q1 : (0 : Int) ≤ m.src := m1.1
  have q2 : m.src < (b.counts.length : Int) := by omega
  have q3 : m.src.toNat < b.counts.length := by omega
  have q4 : m.src < (b.money.length : Int) := by omega
  have q5 : m.src.toNat < b.money.length := by omega
  have q6 : (0 : Int) ≤ m.dst := m2.1
  have q7 : m.dst < (b.money.length : Int) := by omega
  have q8 : m.dst.toNat < b.money.length := by omega
  refine VMut.go (nt := 57) (keep := [0, 1, 2, 3, 4, 5, 9, 19]) (i := 0) (mvs := []) [(3, .tree true (.take 0 (.take 1 (.take 2 (.take 3 (.take 4 (.take 5 (.take 6 (.take 7 (.take 8 (.all (.cons 9 .done .nil)))))))))))), (5, .tree true (.take 0 (.take 1 (.take 2 (.take 3 (.take 4 (.take 5 (.take 6 (.take 7 (.take 8 (.all (.cons 9 .done .nil)))))))))))), (7, .tree false (.take 0 (.take 2 (.take 6 (.all (.cons 1 (.all (.cons 3 (.take 4 (.all (.cons 5 (.all (.cons 7 (.take 8 (.take 9 (.all (.cons 10 .done .nil)))) .nil)) (.cons 7 (.all (.cons 5 (.take 8 (.take 9 (.all (.cons 10 .done .nil)))) .nil)) .nil)))) (.cons 7 (.all (.cons 3 (.take 4 (.all (.cons 5 (.take 8 (.take 9 (.all (.cons 10 .done .nil)))) .nil))) .nil)) .nil))) (.cons 3 (.all (.cons 1 (.take 4 (.all (.cons 5 (.all (.cons 7 (.take 8 (.take 9 (.all (.cons 10 .done .nil)))) .nil)) (.cons 7 (.all (.cons 5 (.take 8 (.take 9 (.all (.cons 10 .done .nil)))) .nil)) .nil)))) (.cons 7 (.all (.cons 1 (.take 4 (.all (.cons 5 (.take 8 (.take 9 (.all (.cons 10 .done .nil)))) .nil))) .nil)) .nil))) (.cons 7 (.all (.cons 1 (.all (.cons 3 (.take 4 (.all (.cons 5 (.take 8 (.take 9 (.all (.cons 10 .done .nil)))) .nil))) .nil)) (.cons 3 (.all (.cons 1 (.take 4 (.all (.cons 5 (.take 8 (.take 9 (.all (.cons 10 .done .nil)))) .nil))) .nil)) .nil))) .nil)))))))), (8, .tree false (.take 0 (.take 2 (.take 6 (.all (.cons 1 (.all (.cons 3 (.take 4 (.all (.cons 5 (.all (.cons 7 (.take 8 (.take 9 (.all (.cons 10 .done .nil)))) .nil)) (.cons 7 (.all (.cons 5 (.take 8 (.take 9 (.all (.cons 10 .done .nil)))) .nil)) .nil)))) (.cons 7 (.all (.cons 3 (.take 4 (.all (.cons 5 (.take 8 (.take 9 (.all (.cons 10 .done .nil)))) .nil))) .nil)) .nil))) (.cons 3 (.all (.cons 1 (.take 4 (.all (.cons 5 (.all (.cons 7 (.take 8 (.take 9 (.all (.cons 10 .done .nil)))) .nil)) (.cons 7 (.all (.cons 5 (.take 8 (.take 9 (.all (.cons 10 .done .nil)))) .nil)) .nil)))) (.cons 7 (.all (.cons 1 (.take 4 (.all (.cons 5 (.take 8 (.take 9 (.all (.cons 10 .done .nil)))) .nil))) .nil)) .nil))) (.cons 7 (.all (.cons 1 (.all (.cons 3 (.take 4 (.all (.cons 5 (.take 8 (.take 9 (.all (.cons 10 .done .nil)))) .nil))) .nil)) (.cons 3 (.all (.cons 1 (.take 4 (.all (.cons 5 (.take 8 (.take 9 (.all (.cons 10 .done .nil)))) .nil))) .nil)) .nil))) .nil))))))))] f40_at rfl (by kernel_rfl) rfl (by kernel_rfl) rfl rfl rfl ?_
  intro hok
  simp only [go_sem] at hok
  simp only [Tryz.f40, Func.code, Option.getD_some]
  simp only [go_sem]
  refine call_lend ?_
  simp only [go_sem]
  refine callN.eq (ok14 m) (by simp only [go_sem]) ?_
  simp only [go_sem]
  simp only [go_sem, hm, q1, q2, q3]
  by_cases g1 : m.cnt = b.counts.getD m.src.toNat default
  rotate_left
  · have : b.mv m = (b, 2) := by rw [Bnk.mv, if_pos g1]
    simp only [go_sem, g1, this]
    try trivial
  simp only [go_sem, eq_true g1, hm, q1, q2, q3, q4, q5]
  by_cases g2 : b.money.getD m.src.toNat default < m.sum
  · have : b.mv m = (b, 3) := by rw [Bnk.mv, if_neg (not_not_intro g1), if_pos g2]
    simp only [go_sem, eq_true g2, this]
    try trivial
  have e : b.mv m = (b.put m, 0) := by rw [Bnk.mv, if_neg (not_not_intro g1), if_neg g2]
  rw [e]
  have z1 := h2 _ (getD_mem q5)
  have w1 : IntKind.i64.wrap (b.money.getD m.src.toNat default - m.sum) = b.money.getD m.src.toNat default - m.sum := wrap64 (by omega) (by omega)
  have z2 : 0 ≤ (b.money.set m.src.toNat (b.money.getD m.src.toNat default - m.sum)).getD m.dst.toNat default ∧ (b.money.set m.src.toNat (b.money.getD m.src.toNat default - m.sum)).getD m.dst.toNat default ≤ 1000000000 := by
    rcases set_mem (getD_mem (xs := b.money.set m.src.toNat (b.money.getD m.src.toNat default - m.sum)) (i := m.dst.toNat) (by rw [List.length_set]; exact q8)) with hx | hx
    · exact h2 _ hx
    · omega
  have w2 : IntKind.i64.wrap ((b.money.set m.src.toNat (b.money.getD m.src.toNat default - m.sum)).getD m.dst.toNat default + m.sum) = (b.money.set m.src.toNat (b.money.getD m.src.toNat default - m.sum)).getD m.dst.toNat default + m.sum := wrap64 (by omega) (by omega)
  have z3 := h4 _ (getD_mem q3)
  have w3 : IntKind.i64.wrap (b.counts.getD m.src.toNat default + 1) = b.counts.getD m.src.toNat default + 1 := wrap64 (by omega) (by omega)
  simp only [go_sem, eq_false g2, hm, q1, q2, q3, q4, q5, q6, q7, q8, w1, w2, w3]
  exact ⟨rfl, rfl⟩
set_option maxHeartbeats 4000000 in
theorem ok10 (b : Bnk) (m : Mv) (hb : b.ok = true) (hm : m.ok = true) :
    VCalls gz 10 [b.enc false, m.enc] none (fun y _ => y = .tup [(b.mv m).1.enc true, .lit (.int .i64 (b.mv m).2)]) := by
  obtain ⟨⟨h1, h2⟩, ⟨h3, h4⟩, h5⟩ := Bnk.ok_iff.1 hb
  obtain ⟨m1, m2, m3, m4⟩ := Mv.ok_iff.1 hm
  have q1 : (0 : Int) ≤ m.src := m1.1
  have q2 : m.src < (b.counts.length : Int) := by omega
  have q3 : m.src.toNat < b.counts.length := by omega
  have q4 : m.src < (b.money.length : Int) := by omega
  have q5 : m.src.toNat < b.money.length := by omega
  have q6 : (0 : Int) ≤ m.dst := m2.1
  have q7 : m.dst < (b.money.length : Int) := by omega
  have q8 : m.dst.toNat < b.money.length := by omega
  refine VCalls.go (nt := 81) (keep := [0, 1, 2, 3, 4, 5, 6, 14, 18, 29]) (muts := []) (mvs := []) [(4, .tree true (.take 0 (.take 1 (.take 2 (.take 3 (.take 4 (.take 5 (.take 6 (.take 7 (.take 8 (.all (.cons 9 .done .nil)))))))))))), (6, .tree true (.take 0 (.take 1 (.take 2 (.take 3 (.take 4 (.take 5 (.take 6 (.take 7 (.take 8 (.all (.cons 9 .done .nil)))))))))))), (8, .tree true (.take 0 (.take 1 (.take 2 (.take 3 (.take 4 (.take 5 (.take 6 (.take 7 (.take 8 (.take 9 (.take 10 (.take 11 (.take 12 (.take 13 (.last 14)))))))))))))))), (9, .tree true (.take 0 (.take 1 (.take 2 (.take 3 (.take 4 (.take 5 (.take 6 (.take 7 (.take 8 (.take 9 (.take 10 (.take 11 (.take 12 (.take 13 (.last 14)))))))))))))))), (10, .tree true (.take 0 (.take 1 (.take 2 (.take 3 (.take 4 (.take 5 (.take 6 (.take 7 (.take 8 (.take 9 (.take 10 (.take 11 (.last 12))))))))))))))] f10_at rfl (by kernel_rfl) rfl (by kernel_rfl) rfl (fun i h => by cases h) rfl ?_
  intro hok
  simp only [go_sem] at hok
  simp only [Tryz.f10, Func.code, Option.getD_some]
  simp only [go_sem]
  refine call_lend ?_
  simp only [go_sem]
  refine callN.eq (ok13 b) (by simp only [go_sem]) ?_
  simp only [go_sem]
  simp only [go_sem, hb]
  refine call_lend ?_
  simp only [go_sem]
  refine callN.eq (ok15 m) (by simp only [go_sem]) ?_
  simp only [go_sem]
  simp only [go_sem, hm]
  refine call_lend ?_
  simp only [go_sem]
  refine callN.eq (ok45 b (by omega) (by omega)) (by simp only [go_sem]) ?_
  simp only [go_sem]
  simp only [go_sem, hm, q1, q2, q3]
  by_cases g1 : m.cnt = b.counts.getD m.src.toNat default
  rotate_left
  · have : b.mv m = (b, 2) := by rw [Bnk.mv, if_pos g1]
    simp only [go_sem, g1, this]
    try trivial
  simp only [go_sem, eq_true g1, hm, q1, q2, q3, q4, q5]
  by_cases g2 : b.money.getD m.src.toNat default < m.sum
  · have : b.mv m = (b, 3) := by rw [Bnk.mv, if_neg (not_not_intro g1), if_pos g2]
    simp only [go_sem, eq_true g2, this]
    try trivial
  have e : b.mv m = (b.put m, 0) := by rw [Bnk.mv, if_neg (not_not_intro g1), if_neg g2]
  rw [e]
  have z1 := h2 _ (getD_mem q5)
  have w1 : IntKind.i64.wrap (b.money.getD m.src.toNat default - m.sum) = b.money.getD m.src.toNat default - m.sum := wrap64 (by omega) (by omega)
  have z2 : 0 ≤ (b.money.set m.src.toNat (b.money.getD m.src.toNat default - m.sum)).getD m.dst.toNat default ∧ (b.money.set m.src.toNat (b.money.getD m.src.toNat default - m.sum)).getD m.dst.toNat default ≤ 1000000000 := by
    rcases set_mem (getD_mem (xs := b.money.set m.src.toNat (b.money.getD m.src.toNat default - m.sum)) (i := m.dst.toNat) (by rw [List.length_set]; exact q8)) with hx | hx
    · exact h2 _ hx
    · omega
  have w2 : IntKind.i64.wrap ((b.money.set m.src.toNat (b.money.getD m.src.toNat default - m.sum)).getD m.dst.toNat default + m.sum) = (b.money.set m.src.toNat (b.money.getD m.src.toNat default - m.sum)).getD m.dst.toNat default + m.sum := wrap64 (by omega) (by omega)
  have z3 := h4 _ (getD_mem q3)
  have w3 : IntKind.i64.wrap (b.counts.getD m.src.toNat default + 1) = b.counts.getD m.src.toNat default + 1 := wrap64 (by omega) (by omega)
  simp only [go_sem, eq_false g2, hm, q1, q2, q3, q4, q5, q6, q7, q8, w1, w2, w3]
  rw [tkl (by simp only [List.length_set]), tkl (by simp only [List.length_set])]
  exact ⟨rfl, rfl⟩
end Go.VS
set_option linter.unusedSimpArgs false
set_option linter.unusedVariables false
open Go.Proofs Go.RowKit
set_option maxRecDepth 20000
namespace Go.VS
theorem f16_at : gz.P.funcs[16]? = some Tryz.f16 := by
  have h : Tryz.prog.funcs[16]? = some Tryz.f16 := by kernel_rfl
  exact h
theorem f9_at : gz.P.funcs[9]? = some Tryz.f9 := by
  have h : Tryz.prog.funcs[9]? = some Tryz.f9 := by kernel_rfl
  exact h
noncomputable def Bnk.ans (b : Bnk) (l : List ByteArray) : Bnk × List Int := if b.ok = true then b.run l l.length else (⟨[], []⟩, [])
theorem rdA_none : rdA none = .tup [mv0.enc, .lit (.bool false)] := rfl
theorem rdA_some {m : Mv} : rdA (some m) = .tup [m.enc, .lit (.bool true)] := rfl
theorem Bnk.ok_len {b : Bnk} (h : b.ok = true) : b.money.length = 8 ∧ b.counts.length = 8 := ⟨(Bnk.ok_iff.1 h).1.1, (Bnk.ok_iff.1 h).2.1.1⟩
theorem Bnk.mv_len {b : Bnk} {m : Mv} : (b.mv m).1.money.length = b.money.length ∧ (b.mv m).1.counts.length = b.counts.length := by
  unfold Bnk.mv
  split
  · exact ⟨rfl, rfl⟩
  · split
    · exact ⟨rfl, rfl⟩
    · simp only [Bnk.put, List.length_set, and_self]
set_option maxHeartbeats 2000000 in
theorem ok9 (b : Bnk) (l : List ByteArray) (hb1 : b.money.length ≤ 1048576) (hb2 : b.counts.length ≤ 1048576) (hl : l.length ≤ 1099511627776) (hs : ∀ s ∈ l, s.size ≤ 4000000) : VCalls gz 9 [b.enc false, .lst false 1 (l.map strA)] none (fun y _ => y = .tup [(b.ans l).1.enc true, .lst true 1 ((b.ans l).2.map intA)]) := by
  refine VCalls.go (nt := 42) (keep := [0, 1, 2, 4, 5, 6, 7, 9, 10, 11, 12, 15, 20, 21, 22, 23, 31]) (muts := []) (mvs := []) [] f9_at rfl (by kernel_rfl) rfl (by kernel_rfl) rfl (fun i h => by cases h) rfl ?_
  intro hok
  simp only [go_sem] at hok
  simp only [Tryz.f9, Func.code, Option.getD_some]
  simp only [go_sem]
  refine call_lend ?_
  simp only [go_sem]
  refine callN.eq (ok12 b) (by simp only [go_sem]) ?_
  simp only [go_sem]
  cases h : b.ok
  · have : b.ans l = (⟨[], []⟩, []) := if_neg (by rw [h]; decide)
    simp only [go_sem, this]
    try trivial
  have ea : b.ans l = b.run l l.length := if_pos h
  simp only [go_sem]
  refine call_lend ?_
  simp only [go_sem]
  refine callN.eq (ok39 b hb1 hb2) (by simp only [go_sem]) ?_
  simp only [go_sem]
  intro hm
  refine vm_loopK (α := Nat) (fun i => [(2, .ptr true (b.enc false)), (4, .ptr true (Bnk.enc true ⟨[], []⟩)), (6, .ptr true ((b.run l i).1.enc true)), (7, .lst true 1 ((b.run l i).2.map intA)), (20, .lst false 1 (l.map strA)), (21, .lit (.int .i64 l.length)), (22, .lit (.int .i64 i))]) (fun i => i ≤ l.length) (fun i => l.length - i) 0 ?_ (by omega) (by kernel_rfl) (fun _ => rfl) ?_
  · simp only [go_sem, Bnk.run]
    try trivial
  · intro i hi hk
    have hlr := Bnk.run_len b l i
    have hro := (Bnk.run_ok h l i).1
    have hrl := Bnk.ok_len hro
    simp only [go_sem]
    first | refine branch_ndec (fun h6 => ?_) (fun h6 => ?_) | refine branch_dec (fun h6 => ?_) (fun h6 => ?_) | refine branch_nbool (fun h6 => ?_) (fun h6 => ?_) | refine branch_split (fun h6 => ?_) (fun h6 => ?_)
    · have hlt : i < l.length := by omega
      have h0 : (0 : Int) ≤ (i : Int) := by omega
      have hw3 : IntKind.i64.wrap ((i : Int) + 1) = ((i + 1 : Nat) : Int) := by rw [wrap64 (by omega) (by omega)]; omega
      simp only [go_sem, h0, hlt, h6]
      have hr := ok44 (l.getD i default) (hs _ (getD_mem hlt))
      cases g : rdM (l.getD i default) with
      | none =>
        have e : b.run l (i + 1) = ((b.run l i).1, (b.run l i).2 ++ [1]) := by simp only [Bnk.run, Bnk.ln, g]
        rw [g, rdA_none] at hr
        refine call_lend ?_
        simp only [go_sem]
        refine callN.eq (hr) (by simp only [go_sem]) ?_
        simp only [go_sem]
        refine ⟨by omega, ?_⟩
        rw [hw3]
        refine again_intro (i + 1) (by omega) (by omega) ?_
        simp only [go_sem, e]
        try trivial
      | some m =>
        have e : b.run l (i + 1) = (((b.run l i).1.mv m).1, (b.run l i).2 ++ [((b.run l i).1.mv m).2]) := by simp only [Bnk.run, Bnk.ln, g]
        have hml := Bnk.mv_len (b := (b.run l i).1) (m := m)
        rw [g, rdA_some] at hr
        refine call_lend ?_
        simp only [go_sem]
        refine callN.eq (hr) (by simp only [go_sem]) ?_
        simp only [go_sem]
        refine call_give 0 6 [.idx 0] rfl rfl rfl (by simp only [go_sem]; rfl) (by simp only [go_sem, List.getElem?_cons_zero, List.getElem?_cons_succ]) (by simp only [go_sem]) (by simp only [go_sem]) (by simp only [go_sem]) ?_
        simp only [go_sem, List.set]
        refine callW.eq (ok40 (b.run l i).1 m hro (rdM_ok g).1) ?_
        simp only [go_sem]
        refine ⟨hml, ⟨by omega, by omega⟩, ?_⟩
        rw [hw3]
        refine again_intro (i + 1) (by omega) (by omega) ?_
        simp only [go_sem, e]
        try trivial
    · have hie : i = l.length := by omega
      subst hie
      rw [ea]
      simp only [go_sem]
      try trivial
set_option maxHeartbeats 2000000 in
theorem ok16 (b : Bnk) (l : List ByteArray) (hb1 : b.money.length ≤ 1048576) (hb2 : b.counts.length ≤ 1048576) (hl : l.length ≤ 1099511627776) (hs : ∀ s ∈ l, s.size ≤ 4000000) : VCalls gz 16 [b.enc false, .lst false 1 (l.map strA)] none (fun y _ => y = .tup [(b.ans l).1.enc true, .lst true 1 ((b.ans l).2.map intA)]) := by
  refine VCalls.go (nt := 53) (keep := [0, 1, 2, 4, 5, 6, 7, 8, 9, 10, 11, 12, 16, 24, 36]) (muts := []) (mvs := [12]) [] f16_at rfl (by kernel_rfl) rfl (by kernel_rfl) rfl (fun i h => by cases h) rfl ?_
  intro hok
  simp only [go_sem] at hok
  simp only [Tryz.f16, Func.code, Option.getD_some]
  simp only [go_sem]
  refine call_lend ?_
  simp only [go_sem]
  refine callN.eq (ok13 b) (by simp only [go_sem]) ?_
  simp only [go_sem]
  cases h : b.ok
  · have : b.ans l = (⟨[], []⟩, []) := if_neg (by rw [h]; decide)
    simp only [go_sem, this]
    try trivial
  have ea : b.ans l = b.run l l.length := if_pos h
  simp only [go_sem]
  refine call_lend ?_
  simp only [go_sem]
  refine callN.eq (ok45 b hb1 hb2) (by simp only [go_sem]) ?_
  simp only [go_sem]
  refine vm_loopK (α := Nat) (fun i => [(1, .lst false 1 (l.map strA)), (2, .ptr true (b.enc false)), (4, .ptr true (Bnk.enc true ⟨[], []⟩)), (6, .lst true 1 ((b.run l i).2.map intA)), (7, .ptr true ((b.run l i).1.enc true)), (8, .lit (.int .i64 i))]) (fun i => i ≤ l.length) (fun i => l.length - i) 0 ?_ (by omega) (by kernel_rfl) (fun _ => rfl) ?_
  · simp only [go_sem, Bnk.run]
    try trivial
  · intro i hi hk
    have hlr := Bnk.run_len b l i
    have hro := (Bnk.run_ok h l i).1
    have hrl := Bnk.ok_len hro
    simp only [go_sem]
    intro hm
    first | refine branch_ndec (fun h6 => ?_) (fun h6 => ?_) | refine branch_dec (fun h6 => ?_) (fun h6 => ?_) | refine branch_nbool (fun h6 => ?_) (fun h6 => ?_) | refine branch_split (fun h6 => ?_) (fun h6 => ?_)
    · have hlt : i < l.length := by omega
      have h0 : (0 : Int) ≤ (i : Int) := by omega
      have hw3 : IntKind.i64.wrap ((i : Int) + 1) = ((i + 1 : Nat) : Int) := by rw [wrap64 (by omega) (by omega)]; omega
      simp only [go_sem, h0, hlt, h6]
      have hr := ok51 (l.getD i default) (hs _ (getD_mem hlt))
      cases g : rdM (l.getD i default) with
      | none =>
        have e : b.run l (i + 1) = ((b.run l i).1, (b.run l i).2 ++ [1]) := by simp only [Bnk.run, Bnk.ln, g]
        rw [g, rdA_none] at hr
        refine call_lend ?_
        simp only [go_sem]
        refine callN.eq (hr) (by simp only [go_sem]) ?_
        simp only [go_sem]
        refine ⟨by omega, ?_⟩
        rw [hw3]
        refine again_intro (i + 1) (by omega) (by omega) ?_
        simp only [go_sem, e]
        try trivial
      | some m =>
        have e : b.run l (i + 1) = (((b.run l i).1.mv m).1, (b.run l i).2 ++ [((b.run l i).1.mv m).2]) := by simp only [Bnk.run, Bnk.ln, g]
        rw [g, rdA_some] at hr
        refine call_lend ?_
        simp only [go_sem]
        refine callN.eq (hr) (by simp only [go_sem]) ?_
        simp only [go_sem]
        refine call_lend ?_
        simp only [go_sem]
        refine callN.eq (ok10 (b.run l i).1 m hro (rdM_ok g).1) (by simp only [go_sem]) ?_
        simp only [go_sem]
        refine ⟨by omega, ?_⟩
        rw [hw3]
        refine again_intro (i + 1) (by omega) (by omega) ?_
        simp only [go_sem, e]
        try trivial
    · have hie : i = l.length := by omega
      subst hie
      rw [ea]
      simp only [go_sem]
      try trivial
end Go.VS
set_option linter.unusedSimpArgs false
set_option linter.unusedVariables false
open Go.Proofs Go.RowKit
set_option maxRecDepth 20000
namespace Go.VS
theorem f21_at : gz.P.funcs[21]? = some Tryz.f21 := by
  have h : Tryz.prog.funcs[21]? = some Tryz.f21 := by kernel_rfl
  exact h
theorem ok21 : VCalls gz 21 [] none (fun y _ => y = Bnk.enc true ⟨List.replicate 8 1000, List.replicate 8 0⟩) := by
  refine VCalls.go (nt := 15) (keep := [0, 1, 2, 6]) (muts := []) (mvs := []) [] f21_at rfl (by kernel_rfl) rfl (by kernel_rfl) rfl (fun i h => by cases h) rfl ?_
  intro hok
  simp only [go_sem] at hok
  simp only [Tryz.f21, Func.code, Option.getD_some]
  simp only [go_sem]
  refine vm_loopK (α := Nat) (fun i => [(0, .ptr true (Bnk.enc true ⟨[], []⟩)), (1, .ptr true (Bnk.enc true ⟨List.replicate i 1000, List.replicate 8 0⟩)), (2, .lit (.int .i64 i))]) (fun i => i ≤ 8) (fun i => 8 - i) 0 ?_ (by omega) (by kernel_rfl) (fun _ => rfl) ?_
  · simp only [go_sem]
    exact ⟨⟨rfl, by rw [List.map_replicate]; rfl⟩, rfl⟩
  · intro i hi hk
    simp only [go_sem]
    first | refine branch_ndec (fun h6 => ?_) (fun h6 => ?_) | refine branch_dec (fun h6 => ?_) (fun h6 => ?_) | refine branch_nbool (fun h6 => ?_) (fun h6 => ?_) | refine branch_split (fun h6 => ?_) (fun h6 => ?_)
    · have hw3 : IntKind.i64.wrap ((i : Int) + 1) = ((i + 1 : Nat) : Int) := by rw [wrap64 (by omega) (by omega)]; omega
      simp only [go_sem, hw3]
      refine ⟨by rw [List.length_replicate]; omega, ?_⟩
      refine again_intro (i + 1) (by omega) (by omega) ?_
      have e : List.map intA (List.replicate i (1000 : Int)) ++ [.lit (.int .i64 1000)] = List.map intA (List.replicate (i + 1) (1000 : Int)) := by
        rw [List.replicate_succ', List.map_append]
        rfl
      simp only [go_sem, e]
      try trivial
    · have : i = 8 := by omega
      subst this
      simp only [go_sem]
      try trivial
theorem getD_app_l {α : Type} [Inhabited α] {p q : List α} {i : Nat} (h : i < p.length) : (p ++ q).getD i default = p.getD i default := by
  simp [List.getD_eq_getElem?_getD, List.getElem?_append_left h]
theorem getD_app_r {α : Type} [Inhabited α] {p q : List α} {i : Nat} : (p ++ q).getD (p.length + i) default = q.getD i default := by
  simp [List.getD_eq_getElem?_getD, List.getElem?_append_right]
theorem Bnk.run_left (b : Bnk) (p q : List ByteArray) : ∀ i, i ≤ p.length → b.run (p ++ q) i = b.run p i
  | 0, _ => rfl
  | i + 1, h => by rw [Bnk.run, Bnk.run, Bnk.run_left b p q i (by omega), getD_app_l (by omega)]
theorem Bnk.run_app (b : Bnk) (p q : List ByteArray) : ∀ i, i ≤ q.length → b.run (p ++ q) (p.length + i) = (((b.run p p.length).1.run q i).1, (b.run p p.length).2 ++ ((b.run p p.length).1.run q i).2)
  | 0, _ => by rw [Nat.add_zero, Bnk.run_left b p q _ (Nat.le_refl _)]; simp [Bnk.run]
  | i + 1, h => by rw [← Nat.add_assoc, Bnk.run, Bnk.run_app b p q i (by omega), getD_app_r]; simp [Bnk.run]
theorem Bnk.ans_ok {b : Bnk} (h : b.ok = true) (l : List ByteArray) : (b.ans l).1.ok = true := by
  have : b.ans l = b.run l l.length := if_pos h
  rw [this]
  exact (Bnk.run_ok h l _).1
theorem Bnk.ans_app {b : Bnk} (h : b.ok = true) (p q : List ByteArray) : b.ans (p ++ q) = (((b.ans p).1.ans q).1, (b.ans p).2 ++ ((b.ans p).1.ans q).2) := by
  have h1 : b.ans (p ++ q) = b.run (p ++ q) (p ++ q).length := if_pos h
  have h2 : b.ans p = b.run p p.length := if_pos h
  have h3 : (b.ans p).1.ans q = (b.ans p).1.run q q.length := if_pos (Bnk.ans_ok h p)
  rw [h1, h3, h2, List.length_append, Bnk.run_app b p q _ (Nat.le_refl _)]
end Go.VS
set_option linter.unusedSimpArgs false
set_option linter.unusedVariables false
open Go.Proofs Go.RowKit
set_option maxRecDepth 20000
namespace Go.VS
theorem f125_at : gz.P.funcs[125]? = some Tryz.f125 := by
  have h : Tryz.prog.funcs[125]? = some Tryz.f125 := by kernel_rfl
  exact h
theorem f86_at : gz.P.funcs[86]? = some Tryz.f86 := by
  have h : Tryz.prog.funcs[86]? = some Tryz.f86 := by kernel_rfl
  exact h
theorem f52_at : gz.P.funcs[52]? = some Tryz.f52 := by
  have h : Tryz.prog.funcs[52]? = some Tryz.f52 := by kernel_rfl
  exact h
theorem f20_at : gz.P.funcs[20]? = some Tryz.f20 := by
  have h : Tryz.prog.funcs[20]? = some Tryz.f20 := by kernel_rfl
  exact h
theorem and64_1 : andI .u64 1 4294967295 = 1 := by decide
theorem and64_8 : andI .u64 8 4294967295 = 8 := by decide
theorem and64_0 : andI .u64 0 4294967295 = 0 := by decide
theorem shr64_1 : shrI .u64 1 32 = 0 := by decide
theorem shr64_8 : shrI .u64 8 32 = 0 := by decide
theorem shr64_0 : shrI .u64 0 32 = 0 := by decide
theorem wr64_8 : IntKind.u64.wrap 8 = 8 := by decide
theorem wr64_0 : IntKind.u64.wrap 0 = 0 := by decide
theorem wr64_1 : IntKind.u64.wrap 1 = 1 := by decide
theorem ok125 : VCalls gz 125 [.lit (.int .u64 1), .lit (.int .u64 8)] none (fun y _ => y = .tup [.lit (.int .u64 0), .lit (.int .u64 8)]) := by
  refine VCalls.go (nt := 51) (keep := [0, 1, 4, 5, 6, 7, 8, 9, 10, 11, 12, 13]) (muts := []) (mvs := []) [] f125_at rfl (by kernel_rfl) rfl (by kernel_rfl) rfl (fun i h => by cases h) rfl ?_
  intro hok
  simp only [go_sem] at hok
  simp only [Tryz.f125, Func.code, Option.getD_some]
  simp only [go_sem]
  simp [and64_1, and64_8, and64_0, shr64_1, shr64_8, shr64_0, wr64_8, wr64_0, wr64_1, go_sem]
theorem ok86 : VCalls gz 86 [.lit (.int .u64 1), .lit (.int .u64 8)] none (fun y _ => y = .tup [.lit (.int .u64 0), .lit (.int .u64 8)]) := by
  refine VCalls.go (nt := 30) (keep := [0, 1, 4, 5, 6, 7, 8, 9]) (muts := []) (mvs := []) [] f86_at rfl (by kernel_rfl) rfl (by kernel_rfl) rfl (fun i h => by cases h) rfl ?_
  intro hok
  simp only [go_sem] at hok
  simp only [Tryz.f86, Func.code, Option.getD_some]
  simp only [go_sem]
  refine call_lend ?_
  simp only [go_sem]
  refine callN.eq (ok125) (by simp only [go_sem]) ?_
  simp only [go_sem]
def repT : Nat → List Int
  | 1 => [1000, 0, 0, 0, 0, 0, 0, 0]
  | 2 => [1000, 1000, 0, 0, 0, 0, 0, 0]
  | 4 => [1000, 1000, 1000, 1000, 0, 0, 0, 0]
  | _ => [1000, 1000, 1000, 1000, 1000, 1000, 1000, 1000]
theorem repT1 : repT 1 = [1000, 0, 0, 0, 0, 0, 0, 0] := rfl
theorem repT2 : repT 2 = [1000, 1000, 0, 0, 0, 0, 0, 0] := rfl
theorem repT4 : repT 4 = [1000, 1000, 1000, 1000, 0, 0, 0, 0] := rfl
theorem repT8 : repT 8 = [1000, 1000, 1000, 1000, 1000, 1000, 1000, 1000] := rfl
theorem ok52 : VCalls gz 52 [.lst false 1 [.lit (.int .i64 1000)], .lit (.int .i64 8)] none (fun y _ => y = .lst true 1 ((List.replicate 8 1000).map intA)) := by
  refine VCalls.go (nt := 48) (keep := [0, 1, 4, 5, 6, 7, 8, 10, 26, 37]) (muts := []) (mvs := []) [(9, .tree false (.take 0 (.take 1 (.take 2 (.take 4 (.take 5 (.all (.cons 3 (.all (.cons 6 (.all (.cons 7 (.take 8 (.all (.cons 9 .done .nil))) .nil)) .nil)) (.cons 6 (.all (.cons 3 (.all (.cons 7 (.take 8 (.all (.cons 9 .done .nil))) .nil)) .nil)) .nil)))))))))] f52_at rfl (by kernel_rfl) rfl (by kernel_rfl) rfl (fun i h => by cases h) rfl ?_
  intro hok
  simp only [go_sem] at hok
  simp only [Tryz.f52, Func.code, Option.getD_some]
  simp only [go_sem]
  have u1 : IntKind.u64.wrap ((1 : Nat) : Int) = 1 := by decide
  have i8 : IntKind.i64.wrap 8 = 8 := by decide
  simp only [go_sem, u1, wr64_8]
  refine call_lend ?_
  simp only [go_sem]
  refine callN.eq (ok86) (by simp only [go_sem]) ?_
  simp only [go_sem]
  simp only [go_sem, i8]
  refine ⟨by decide, by decide, ?_⟩
  refine vm_loopK (α := Nat) (fun n => [(7, .lst true 1 ((repT n).map intA)), (8, .lit (.int .i64 n))]) (fun n => n = 1 ∨ n = 2 ∨ n = 4 ∨ n = 8) (fun n => 8 - n) 1 ?_ (.inl rfl) (by kernel_rfl) (fun _ => rfl) ?_
  · simp only [go_sem, repT1]
    try rfl
  · have c1 : ((1 : Nat) : Int) = 1 := rfl
    have c2 : ((2 : Nat) : Int) = 2 := rfl
    have c4 : ((4 : Nat) : Int) = 4 := rfl
    have c8 : ((8 : Nat) : Int) = 8 := rfl
    have w2 : IntKind.i64.wrap 2 = 2 := by decide
    have w4 : IntKind.i64.wrap 4 = 4 := by decide
    have wr8 : IntKind.i64.wrap 8 = 8 := by decide
    rintro n (rfl | rfl | rfl | rfl) hk
    · simp only [go_sem, repT1, c1, c8, w2, List.length_map, List.length_cons, List.length_nil, List.map_cons, List.map_nil]
      repeat' first | refine And.intro ?_ ?_ | intro _
      all_goals first | contradiction | skip
      all_goals refine again_intro 2 (by simp) (by decide) ?_
      all_goals
        simp only [go_sem, repT2, intA, c2, List.map_cons, List.map_nil, List.drop_succ_cons, List.drop_zero]
        try rfl
    · simp only [go_sem, repT2, c2, c8, w4, List.length_map, List.length_cons, List.length_nil, List.map_cons, List.map_nil]
      repeat' first | refine And.intro ?_ ?_ | intro _
      all_goals first | contradiction | skip
      all_goals refine again_intro 4 (by simp) (by decide) ?_
      all_goals
        simp only [go_sem, repT4, intA, c4, List.map_cons, List.map_nil, List.drop_succ_cons, List.drop_zero]
        try rfl
    · simp only [go_sem, repT4, c4, c8, wr8, List.length_map, List.length_cons, List.length_nil, List.map_cons, List.map_nil]
      repeat' first | refine And.intro ?_ ?_ | intro _
      all_goals first | contradiction | skip
      all_goals refine again_intro 8 (by simp) (by decide) ?_
      all_goals
        simp only [go_sem, repT8, intA, c8, List.map_cons, List.map_nil, List.drop_succ_cons, List.drop_zero]
        try rfl
    · simp only [go_sem, repT8, c8, List.length_map, List.length_cons, List.length_nil, List.map_cons, List.map_nil]
      rfl
theorem ok20 : VCalls gz 20 [] none (fun y _ => y = Bnk.enc true ⟨List.replicate 8 1000, List.replicate 8 0⟩) := by
  have e0 : List.replicate 8 (AVal.lit (Value.int IntKind.i64 0)) = List.map intA (List.replicate 8 0) := rfl
  refine VCalls.go (nt := 5) (keep := [0]) (muts := []) (mvs := []) [(1, .tree false (.all (.cons 0 (.all (.cons 1 (.all (.cons 2 (.all (.cons 3 (.all (.cons 4 .done .nil)) .nil)) .nil)) (.cons 2 (.all (.cons 1 (.all (.cons 3 (.all (.cons 4 .done .nil)) .nil)) .nil)) .nil))) (.cons 2 (.all (.cons 0 (.all (.cons 1 (.all (.cons 3 (.all (.cons 4 .done .nil)) .nil)) .nil)) .nil)) .nil))))] f20_at rfl (by kernel_rfl) rfl (by kernel_rfl) rfl (fun i h => by cases h) rfl ?_
  intro hok
  simp only [go_sem] at hok
  simp only [Tryz.f20, Func.code, Option.getD_some]
  simp only [go_sem]
  repeat' refine And.intro ?_ ?_
  all_goals
    refine call_lend ?_
    simp only [go_sem]
    refine callN.eq (ok52) (by simp only [go_sem]) ?_
    simp only [go_sem]
    try exact e0
end Go.VS
set_option linter.unusedSimpArgs false
set_option linter.unusedVariables false
open Go.Proofs
set_option maxRecDepth 20000
namespace Go.VS
theorem f126_at : gz.P.funcs[126]? = some Tryz.f126 := by
  have h : Tryz.prog.funcs[126]? = some Tryz.f126 := by kernel_rfl
  exact h
theorem f57_at : gz.P.funcs[57]? = some Tryz.f57 := by
  have h : Tryz.prog.funcs[57]? = some Tryz.f57 := by kernel_rfl
  exact h
theorem f55_at : gz.P.funcs[55]? = some Tryz.f55 := by
  have h : Tryz.prog.funcs[55]? = some Tryz.f55 := by kernel_rfl
  exact h
theorem f56_at : gz.P.funcs[56]? = some Tryz.f56 := by
  have h : Tryz.prog.funcs[56]? = some Tryz.f56 := by kernel_rfl
  exact h
theorem f53_at : gz.P.funcs[53]? = some Tryz.f53 := by
  have h : Tryz.prog.funcs[53]? = some Tryz.f53 := by kernel_rfl
  exact h
theorem f87_at : gz.P.funcs[87]? = some Tryz.f87 := by
  have h : Tryz.prog.funcs[87]? = some Tryz.f87 := by kernel_rfl
  exact h
theorem f54_at : gz.P.funcs[54]? = some Tryz.f54 := by
  have h : Tryz.prog.funcs[54]? = some Tryz.f54 := by kernel_rfl
  exact h
theorem f22_at : gz.P.funcs[22]? = some Tryz.f22 := by
  have h : Tryz.prog.funcs[22]? = some Tryz.f22 := by kernel_rfl
  exact h
def szR (n : Nat) (left : Int) : Int := if (n : Int) ≤ left then left - n else -1
def szL {α : Type} (f : α → Nat) (xs : List α) : Nat := xs.length + (xs.map f).sum
def szN {α : Type} (f : α → Nat) (xs : List α) (i : Nat) : Nat := xs.length + ((xs.take i).map f).sum
theorem szN_zero {α : Type} (f : α → Nat) (xs : List α) : szN f xs 0 = xs.length := by simp [szN]
theorem szN_len {α : Type} (f : α → Nat) (xs : List α) : szN f xs xs.length = szL f xs := by simp [szN, szL]
theorem szN_succ {α : Type} [Inhabited α] (f : α → Nat) (xs : List α) {i : Nat} (h : i < xs.length) : szN f xs (i + 1) = szN f xs i + f (xs.getD i default) := by
  simp only [szN, take_succ_getD h, List.map_append, List.sum_append, List.map_cons, List.map_nil, List.sum_cons, List.sum_nil]
  omega
theorem szN_le {α : Type} (f : α → Nat) (xs : List α) (i : Nat) : szN f xs i ≤ szL f xs := by
  simp only [szN, szL]
  have : (xs.map f).sum = ((xs.take i).map f).sum + ((xs.drop i).map f).sum := by
    rw [← List.sum_append, ← List.map_append, List.take_append_drop]
  omega
theorem szR_lt {n : Nat} {left : Int} (h : left < n) : szR n left = -1 := if_neg (by omega)
theorem szR_le {n : Nat} {left : Int} (h : (n : Int) ≤ left) : szR n left = left - n := if_pos h
theorem szR_add {a b : Nat} {left : Int} (h : (a : Int) ≤ left) : szR b (left - a) = szR (a + b) left := by
  unfold szR
  split <;> split <;> omega
def room (left : Int) : Prop := 0 ≤ left ∧ left ≤ 1048576
theorem ok126 (xs : List ByteArray) (left : Int) (hl : room left) : VCalls gz 126 [.lst false 1 (xs.map strA), .lit (.int .i64 left)] none (fun y _ => y = .lit (.int .i64 (szR (szL ByteArray.size xs) left))) := by
  obtain ⟨hl1, hl2⟩ := hl
  refine VCalls.go (nt := 28) (keep := [0, 1, 4, 5, 11, 15, 26]) (muts := []) (mvs := []) [] f126_at rfl (by kernel_rfl) rfl (by kernel_rfl) rfl (fun i h => by cases h) rfl ?_
  intro hok
  simp only [go_sem] at hok
  simp only [Tryz.f126, Func.code, Option.getD_some]
  simp only [go_sem]
  intro hm
  have hw : IntKind.i64.wrap (left - (xs.length : Int)) = left - (xs.length : Int) := wrap64 (by omega) (by omega)
  simp only [go_sem, hw]
  first | refine branch_ndec (fun h => ?_) (fun h => ?_) | refine branch_dec (fun h => ?_) (fun h => ?_) | refine branch_nbool (fun h => ?_) (fun h => ?_) | refine branch_split (fun h => ?_) (fun h => ?_)
  · simp only [go_sem]
    rw [szR_lt (by have := szN_le ByteArray.size xs 0; rw [szN_zero] at this; omega)]
  · simp only [go_sem]
    refine vm_loopK (α := Nat) (fun i => [(0, .lst false 1 (xs.map strA)), (1, .lit (.int .i64 (left - szN ByteArray.size xs i))), (4, .lit (.int .i64 0)), (5, .lit (.int .i64 i))]) (fun i => i ≤ xs.length ∧ (szN ByteArray.size xs i : Int) ≤ left) (fun i => xs.length - i) 0 ?_ ⟨by omega, by rw [szN_zero]; omega⟩ (by kernel_rfl) (fun _ => rfl) ?_
    · simp only [go_sem, szN_zero]
      try trivial
    · rintro i ⟨hi, hs⟩ hk
      simp only [go_sem]
      intro _
      first | refine branch_ndec (fun h2 => ?_) (fun h2 => ?_) | refine branch_dec (fun h2 => ?_) (fun h2 => ?_) | refine branch_nbool (fun h2 => ?_) (fun h2 => ?_) | refine branch_split (fun h2 => ?_) (fun h2 => ?_)
      · have hlt : i < xs.length := by omega
        have h0 : (0 : Int) ≤ (i : Int) := by omega
        have hn := szN_succ ByteArray.size xs hlt
        simp only [go_sem, h0, hlt]
        refine ⟨h2, fun hb => ?_⟩
        have hw2 : IntKind.i64.wrap (left - ↑(szN ByteArray.size xs i) - ((ByteArray.size (xs.getD i default) : Nat) : Int)) = left - (szN ByteArray.size xs (i + 1) : Nat) := by rw [wrap64 (by omega) (by omega)]; omega
        rw [hw2]
        first | refine branch_ndec (fun h3 => ?_) (fun h3 => ?_) | refine branch_dec (fun h3 => ?_) (fun h3 => ?_) | refine branch_nbool (fun h3 => ?_) (fun h3 => ?_) | refine branch_split (fun h3 => ?_) (fun h3 => ?_)
        · simp only [go_sem]
          rw [szR_lt (by have := szN_le ByteArray.size xs (i + 1); omega)]
        · have hw3 : IntKind.i64.wrap ((i : Int) + 1) = ((i + 1 : Nat) : Int) := by rw [wrap64 (by omega) (by omega)]; omega
          simp only [go_sem, hw3]
          refine again_intro (i + 1) ⟨by omega, by omega⟩ (by omega) ?_
          simp only [go_sem]
          try trivial
      · simp only [go_sem]
        have : i = xs.length := by omega
        subst this
        rw [szN_len] at hs ⊢
        rw [szR_le hs]
theorem ok57 (xs : List Int) (left : Int) (hl : room left) : VCalls gz 57 [.lst false 1 (xs.map intA), .lit (.int .i64 left)] none (fun y _ => y = .lit (.int .i64 (szR xs.length left))) := by
  obtain ⟨hl1, hl2⟩ := hl
  refine VCalls.go (nt := 12) (keep := [0, 1, 4, 10]) (muts := []) (mvs := []) [] f57_at rfl (by kernel_rfl) rfl (by kernel_rfl) rfl (fun i h => by cases h) rfl ?_
  intro hok
  simp only [go_sem] at hok
  simp only [Tryz.f57, Func.code, Option.getD_some]
  simp only [go_sem]
  intro hm
  have hw : IntKind.i64.wrap (left - (xs.length : Int)) = left - (xs.length : Int) := wrap64 (by omega) (by omega)
  simp only [go_sem, hw]
  first | refine branch_ndec (fun h => ?_) (fun h => ?_) | refine branch_dec (fun h => ?_) (fun h => ?_) | refine branch_nbool (fun h => ?_) (fun h => ?_) | refine branch_split (fun h => ?_) (fun h => ?_)
  · simp only [go_sem]
    rw [szR_lt (by omega)]
  · simp only [go_sem]
    rw [szR_le (by omega)]
theorem ok55 (xs : List Vot) (left : Int) (hl : room left) : VCalls gz 55 [.lst false 4 (xs.map Vot.enc), .lit (.int .i64 left)] none (fun y _ => y = .lit (.int .i64 (szR xs.length left))) := by
  obtain ⟨hl1, hl2⟩ := hl
  refine VCalls.go (nt := 12) (keep := [0, 1, 4, 10]) (muts := []) (mvs := []) [] f55_at rfl (by kernel_rfl) rfl (by kernel_rfl) rfl (fun i h => by cases h) rfl ?_
  intro hok
  simp only [go_sem] at hok
  simp only [Tryz.f55, Func.code, Option.getD_some]
  simp only [go_sem]
  intro hm
  have hw : IntKind.i64.wrap (left - (xs.length : Int)) = left - (xs.length : Int) := wrap64 (by omega) (by omega)
  simp only [go_sem, hw]
  first | refine branch_ndec (fun h => ?_) (fun h => ?_) | refine branch_dec (fun h => ?_) (fun h => ?_) | refine branch_nbool (fun h => ?_) (fun h => ?_) | refine branch_split (fun h => ?_) (fun h => ?_)
  · simp only [go_sem]
    rw [szR_lt (by omega)]
  · simp only [go_sem]
    rw [szR_le (by omega)]
theorem ok56 (xs : List Nws) (left : Int) (hl : room left) : VCalls gz 56 [.lst false 2 (xs.map Nws.enc), .lit (.int .i64 left)] none (fun y _ => y = .lit (.int .i64 (szR xs.length left))) := by
  obtain ⟨hl1, hl2⟩ := hl
  refine VCalls.go (nt := 12) (keep := [0, 1, 4, 10]) (muts := []) (mvs := []) [] f56_at rfl (by kernel_rfl) rfl (by kernel_rfl) rfl (fun i h => by cases h) rfl ?_
  intro hok
  simp only [go_sem] at hok
  simp only [Tryz.f56, Func.code, Option.getD_some]
  simp only [go_sem]
  intro hm
  have hw : IntKind.i64.wrap (left - (xs.length : Int)) = left - (xs.length : Int) := wrap64 (by omega) (by omega)
  simp only [go_sem, hw]
  first | refine branch_ndec (fun h => ?_) (fun h => ?_) | refine branch_dec (fun h => ?_) (fun h => ?_) | refine branch_nbool (fun h => ?_) (fun h => ?_) | refine branch_split (fun h => ?_) (fun h => ?_)
  · simp only [go_sem]
    rw [szR_lt (by omega)]
  · simp only [go_sem]
    rw [szR_le (by omega)]
def Prf.sz (p : Prf) : Nat := p.bys.length + p.tags.length
theorem ok53 (p : Prf) (left : Int) (hl : room left) : VCalls gz 53 [p.enc false, .lit (.int .i64 left)] none (fun y _ => y = .lit (.int .i64 (szR p.sz left))) := by
  obtain ⟨hl1, hl2⟩ := hl
  have hz : p.sz = p.bys.length + p.tags.length := rfl
  refine VCalls.go (nt := 18) (keep := [0, 1, 2, 4, 10, 16]) (muts := []) (mvs := []) [] f53_at rfl (by kernel_rfl) rfl (by kernel_rfl) rfl (fun i h => by cases h) rfl ?_
  intro hok
  simp only [go_sem] at hok
  simp only [Tryz.f53, Func.code, Option.getD_some]
  simp only [go_sem]
  obtain ⟨A1, g1⟩ : ∃ A, A = p.bys.length := ⟨_, rfl⟩
  refine call_lend ?_
  simp only [go_sem]
  refine callN.eq (ok57 p.bys left ⟨hl1, hl2⟩) (by simp only [go_sem]) ?_
  simp only [go_sem]
  rw [← g1]
  by_cases h1 : (A1 : Int) ≤ left
  rotate_left
  · rw [show szR A1 left = -1 from szR_lt (by omega)]
    simp only [go_sem]
    rw [szR_lt (by omega)]
  rw [show szR A1 left = left - (A1 : Int) from szR_le h1]
  have n1 : ¬ (left - (A1 : Int) < 0) := by omega
  simp only [n1, decide_false]
  simp only [go_sem]
  refine call_lend ?_
  simp only [go_sem]
  refine callN.eq (ok57 p.tags _ ⟨by omega, by omega⟩) (by simp only [go_sem]) ?_
  simp only [go_sem]
  obtain ⟨A2, g2⟩ : ∃ A, A = A1 + p.tags.length := ⟨_, rfl⟩
  rw [szR_add h1, ← g2]
  by_cases h2 : (A2 : Int) ≤ left
  rotate_left
  · rw [show szR A2 left = -1 from szR_lt (by omega)]
    simp only [go_sem]
    rw [szR_lt (by omega)]
  rw [show szR A2 left = left - (A2 : Int) from szR_le h2]
  have n2 : ¬ (left - (A2 : Int) < 0) := by omega
  simp only [n2, decide_false]
  simp only [go_sem]
  rw [szR_le (by omega)]
  simp only [show p.sz = A2 by omega]
def Blk.sz (b : Blk) : Nat := b.proof.sz + szL ByteArray.size b.moves
theorem ok87 (b : Blk) (left : Int) (hl : room left) : VCalls gz 87 [b.enc false, .lit (.int .i64 left)] none (fun y _ => y = .lit (.int .i64 (szR b.sz left))) := by
  obtain ⟨hl1, hl2⟩ := hl
  have hz : b.sz = b.proof.sz + szL ByteArray.size b.moves := rfl
  refine VCalls.go (nt := 18) (keep := [0, 1, 2, 4, 10, 16]) (muts := []) (mvs := []) [] f87_at rfl (by kernel_rfl) rfl (by kernel_rfl) rfl (fun i h => by cases h) rfl ?_
  intro hok
  simp only [go_sem] at hok
  simp only [Tryz.f87, Func.code, Option.getD_some]
  simp only [go_sem]
  obtain ⟨A1, g1⟩ : ∃ A, A = b.proof.sz := ⟨_, rfl⟩
  refine call_lend ?_
  simp only [go_sem]
  refine callN.eq (ok53 b.proof left ⟨hl1, hl2⟩) (by simp only [go_sem]) ?_
  simp only [go_sem]
  rw [← g1]
  by_cases h1 : (A1 : Int) ≤ left
  rotate_left
  · rw [show szR A1 left = -1 from szR_lt (by omega)]
    simp only [go_sem]
    rw [szR_lt (by omega)]
  rw [show szR A1 left = left - (A1 : Int) from szR_le h1]
  have n1 : ¬ (left - (A1 : Int) < 0) := by omega
  simp only [n1, decide_false]
  simp only [go_sem]
  refine call_lend ?_
  simp only [go_sem]
  refine callN.eq (ok126 b.moves _ ⟨by omega, by omega⟩) (by simp only [go_sem]) ?_
  simp only [go_sem]
  obtain ⟨A2, g2⟩ : ∃ A, A = A1 + (szL ByteArray.size b.moves) := ⟨_, rfl⟩
  rw [szR_add h1, ← g2]
  by_cases h2 : (A2 : Int) ≤ left
  rotate_left
  · rw [show szR A2 left = -1 from szR_lt (by omega)]
    simp only [go_sem]
    rw [szR_lt (by omega)]
  rw [show szR A2 left = left - (A2 : Int) from szR_le h2]
  have n2 : ¬ (left - (A2 : Int) < 0) := by omega
  simp only [n2, decide_false]
  simp only [go_sem]
  rw [szR_le (by omega)]
  simp only [show b.sz = A2 by omega]
theorem ok54 (xs : List Blk) (left : Int) (hl : room left) : VCalls gz 54 [.lst false 8 (xs.map (Blk.enc false)), .lit (.int .i64 left)] none (fun y _ => y = .lit (.int .i64 (szR (szL Blk.sz xs) left))) := by
  obtain ⟨hl1, hl2⟩ := hl
  refine VCalls.go (nt := 27) (keep := [0, 1, 4, 5, 11, 15, 25]) (muts := []) (mvs := []) [] f54_at rfl (by kernel_rfl) rfl (by kernel_rfl) rfl (fun i h => by cases h) rfl ?_
  intro hok
  simp only [go_sem] at hok
  simp only [Tryz.f54, Func.code, Option.getD_some]
  simp only [go_sem]
  intro hm
  have hw : IntKind.i64.wrap (left - (xs.length : Int)) = left - (xs.length : Int) := wrap64 (by omega) (by omega)
  simp only [go_sem, hw]
  first | refine branch_ndec (fun h => ?_) (fun h => ?_) | refine branch_dec (fun h => ?_) (fun h => ?_) | refine branch_nbool (fun h => ?_) (fun h => ?_) | refine branch_split (fun h => ?_) (fun h => ?_)
  · simp only [go_sem]
    rw [szR_lt (by have := szN_le Blk.sz xs 0; rw [szN_zero] at this; omega)]
  · simp only [go_sem]
    refine vm_loopK (α := Nat) (fun i => [(0, .lst false 8 (xs.map (Blk.enc false))), (1, .lit (.int .i64 (left - szN Blk.sz xs i))), (4, .lit (.int .i64 0)), (5, .lit (.int .i64 i))]) (fun i => i ≤ xs.length ∧ (szN Blk.sz xs i : Int) ≤ left) (fun i => xs.length - i) 0 ?_ ⟨by omega, by rw [szN_zero]; omega⟩ (by kernel_rfl) (fun _ => rfl) ?_
    · simp only [go_sem, szN_zero]
      try trivial
    · rintro i ⟨hi, hs⟩ hk
      simp only [go_sem]
      intro _
      first | refine branch_ndec (fun h2 => ?_) (fun h2 => ?_) | refine branch_dec (fun h2 => ?_) (fun h2 => ?_) | refine branch_nbool (fun h2 => ?_) (fun h2 => ?_) | refine branch_split (fun h2 => ?_) (fun h2 => ?_)
      · have hlt : i < xs.length := by omega
        have h0 : (0 : Int) ≤ (i : Int) := by omega
        have hn := szN_succ Blk.sz xs hlt
        simp only [go_sem, h0, hlt]
        refine ⟨h2, ?_⟩
        refine call_lend ?_
        simp only [go_sem]
        refine callN.eq (ok87 (xs.getD i default) (left - szN Blk.sz xs i) ⟨by omega, by omega⟩) (by simp only [go_sem]) ?_
        simp only [go_sem]
        rw [szR_add hs, ← hn]
        by_cases h3 : (szN Blk.sz xs (i + 1) : Int) ≤ left
        · have e3 : szR (szN Blk.sz xs (i + 1)) left = left - (szN Blk.sz xs (i + 1) : Nat) := szR_le h3
          rw [e3]
          have h4 : ¬ (left - (szN Blk.sz xs (i + 1) : Int) < 0) := by omega
          have hw3 : IntKind.i64.wrap ((i : Int) + 1) = ((i + 1 : Nat) : Int) := by rw [wrap64 (by omega) (by omega)]; omega
          simp only [h4, decide_false]
          simp only [go_sem, hw3]
          refine again_intro (i + 1) ⟨by omega, by omega⟩ (by omega) ?_
          simp only [go_sem]
          try trivial
        · have e3 : szR (szN Blk.sz xs (i + 1)) left = -1 := szR_lt (by omega)
          rw [e3]
          simp only [go_sem]
          rw [szR_lt (by have := szN_le Blk.sz xs (i + 1); omega)]
      · simp only [go_sem]
        have : i = xs.length := by omega
        subst this
        rw [szN_len] at hs ⊢
        rw [szR_le hs]
def Rpl.sz (r : Rpl) : Nat := r.high.sz + szL Blk.sz r.blocks + r.votes.length + r.news.length + r.done.length
theorem ok22 (r : Rpl) (left : Int) (hl : room left) : VCalls gz 22 [r.enc false, .lit (.int .i64 left)] none (fun y _ => y = .lit (.int .i64 (szR r.sz left))) := by
  obtain ⟨hl1, hl2⟩ := hl
  have hz : r.sz = r.high.sz + szL Blk.sz r.blocks + r.votes.length + r.news.length + r.done.length := rfl
  refine VCalls.go (nt := 36) (keep := [0, 1, 2, 4, 10, 16, 22, 28, 34]) (muts := []) (mvs := []) [] f22_at rfl (by kernel_rfl) rfl (by kernel_rfl) rfl (fun i h => by cases h) rfl ?_
  intro hok
  simp only [go_sem] at hok
  simp only [Tryz.f22, Func.code, Option.getD_some]
  simp only [go_sem]
  obtain ⟨A1, g1⟩ : ∃ A, A = r.high.sz := ⟨_, rfl⟩
  refine call_lend ?_
  simp only [go_sem]
  refine callN.eq (ok53 r.high left ⟨hl1, hl2⟩) (by simp only [go_sem]) ?_
  simp only [go_sem]
  rw [← g1]
  by_cases h1 : (A1 : Int) ≤ left
  rotate_left
  · rw [show szR A1 left = -1 from szR_lt (by omega)]
    simp only [go_sem]
    rw [szR_lt (by omega)]
  rw [show szR A1 left = left - (A1 : Int) from szR_le h1]
  have n1 : ¬ (left - (A1 : Int) < 0) := by omega
  simp only [n1, decide_false]
  simp only [go_sem]
  refine call_lend ?_
  simp only [go_sem]
  refine callN.eq (ok54 r.blocks _ ⟨by omega, by omega⟩) (by simp only [go_sem]) ?_
  simp only [go_sem]
  obtain ⟨A2, g2⟩ : ∃ A, A = A1 + (szL Blk.sz r.blocks) := ⟨_, rfl⟩
  rw [szR_add h1, ← g2]
  by_cases h2 : (A2 : Int) ≤ left
  rotate_left
  · rw [show szR A2 left = -1 from szR_lt (by omega)]
    simp only [go_sem]
    rw [szR_lt (by omega)]
  rw [show szR A2 left = left - (A2 : Int) from szR_le h2]
  have n2 : ¬ (left - (A2 : Int) < 0) := by omega
  simp only [n2, decide_false]
  simp only [go_sem]
  refine call_lend ?_
  simp only [go_sem]
  refine callN.eq (ok55 r.votes _ ⟨by omega, by omega⟩) (by simp only [go_sem]) ?_
  simp only [go_sem]
  obtain ⟨A3, g3⟩ : ∃ A, A = A2 + r.votes.length := ⟨_, rfl⟩
  rw [szR_add h2, ← g3]
  by_cases h3 : (A3 : Int) ≤ left
  rotate_left
  · rw [show szR A3 left = -1 from szR_lt (by omega)]
    simp only [go_sem]
    rw [szR_lt (by omega)]
  rw [show szR A3 left = left - (A3 : Int) from szR_le h3]
  have n3 : ¬ (left - (A3 : Int) < 0) := by omega
  simp only [n3, decide_false]
  simp only [go_sem]
  refine call_lend ?_
  simp only [go_sem]
  refine callN.eq (ok56 r.news _ ⟨by omega, by omega⟩) (by simp only [go_sem]) ?_
  simp only [go_sem]
  obtain ⟨A4, g4⟩ : ∃ A, A = A3 + r.news.length := ⟨_, rfl⟩
  rw [szR_add h3, ← g4]
  by_cases h4 : (A4 : Int) ≤ left
  rotate_left
  · rw [show szR A4 left = -1 from szR_lt (by omega)]
    simp only [go_sem]
    rw [szR_lt (by omega)]
  rw [show szR A4 left = left - (A4 : Int) from szR_le h4]
  have n4 : ¬ (left - (A4 : Int) < 0) := by omega
  simp only [n4, decide_false]
  simp only [go_sem]
  refine call_lend ?_
  simp only [go_sem]
  refine callN.eq (ok57 r.done _ ⟨by omega, by omega⟩) (by simp only [go_sem]) ?_
  simp only [go_sem]
  obtain ⟨A5, g5⟩ : ∃ A, A = A4 + r.done.length := ⟨_, rfl⟩
  rw [szR_add h4, ← g5]
  by_cases h5 : (A5 : Int) ≤ left
  rotate_left
  · rw [show szR A5 left = -1 from szR_lt (by omega)]
    simp only [go_sem]
    rw [szR_lt (by omega)]
  rw [show szR A5 left = left - (A5 : Int) from szR_le h5]
  have n5 : ¬ (left - (A5 : Int) < 0) := by omega
  simp only [n5, decide_false]
  simp only [go_sem]
  rw [szR_le (by omega)]
  simp only [show r.sz = A5 by omega]
end Go.VS
set_option linter.unusedSimpArgs false
set_option linter.unusedVariables false
open Go.Proofs
set_option maxRecDepth 20000
namespace Go.VS
theorem f137_at : gz.P.funcs[137]? = some Tryz.f137 := by
  have h : Tryz.prog.funcs[137]? = some Tryz.f137 := by kernel_rfl
  exact h
theorem f64_at : gz.P.funcs[64]? = some Tryz.f64 := by
  have h : Tryz.prog.funcs[64]? = some Tryz.f64 := by kernel_rfl
  exact h
theorem f98_at : gz.P.funcs[98]? = some Tryz.f98 := by
  have h : Tryz.prog.funcs[98]? = some Tryz.f98 := by kernel_rfl
  exact h
theorem f62_at : gz.P.funcs[62]? = some Tryz.f62 := by
  have h : Tryz.prog.funcs[62]? = some Tryz.f62 := by kernel_rfl
  exact h
theorem f99_at : gz.P.funcs[99]? = some Tryz.f99 := by
  have h : Tryz.prog.funcs[99]? = some Tryz.f99 := by kernel_rfl
  exact h
theorem f63_at : gz.P.funcs[63]? = some Tryz.f63 := by
  have h : Tryz.prog.funcs[63]? = some Tryz.f63 := by kernel_rfl
  exact h
theorem f60_at : gz.P.funcs[60]? = some Tryz.f60 := by
  have h : Tryz.prog.funcs[60]? = some Tryz.f60 := by kernel_rfl
  exact h
theorem f97_at : gz.P.funcs[97]? = some Tryz.f97 := by
  have h : Tryz.prog.funcs[97]? = some Tryz.f97 := by kernel_rfl
  exact h
theorem ok137 (xs : List ByteArray) (hs : xs.length ≤ 1048576) : VCalls gz 137 [.lst false 1 (xs.map strA)] none (fun y _ => y = .lst true 1 (xs.map strA)) := by
  refine VCalls.go (nt := 22) (keep := [0, 2, 3, 4, 11]) (muts := []) (mvs := []) [] f137_at rfl (by kernel_rfl) rfl (by kernel_rfl) rfl (fun i h => by cases h) rfl ?_
  intro hok
  simp only [go_sem] at hok
  simp only [Tryz.f137, Func.code, Option.getD_some]
  simp only [go_sem]
  intro hm
  refine ⟨by omega, by omega, ⟨by omega, by omega⟩, ?_⟩
  refine vm_loopK (α := Nat) (fun i => [(0, .lst false 1 (xs.map strA)), (3, .lst true 1 ((midL xs (List.replicate xs.length default) i).map strA)), (4, .lit (.int .i64 i))]) (fun i => i ≤ xs.length) (fun i => xs.length - i) 0 ?_ (by omega) (by kernel_rfl) (fun _ => rfl) ?_
  · simp only [go_sem]
    refine ⟨?_, rfl⟩
    rw [midL_zero, List.map_replicate]
    rfl
  · intro i hi hk
    have hml : (midL xs (List.replicate xs.length default) i).length = xs.length := midL_length hi (by simp)
    simp only [go_sem]
    intro _
    first | refine branch_ndec (fun h2 => ?_) (fun h2 => ?_) | refine branch_dec (fun h2 => ?_) (fun h2 => ?_) | refine branch_nbool (fun h2 => ?_) (fun h2 => ?_) | refine branch_split (fun h2 => ?_) (fun h2 => ?_)
    · have hlt : i < xs.length := by omega
      have h0 : (0 : Int) ≤ (i : Int) := by omega
      have hset := midL_set xs (List.replicate xs.length default) hlt (by simp)
      have hw3 : IntKind.i64.wrap ((i : Int) + 1) = ((i + 1 : Nat) : Int) := by rw [wrap64 (by omega) (by omega)]; omega
      simp only [go_sem, h0, hlt, h2, hml, hw3, hset]
      refine again_intro (i + 1) (by omega) (by omega) ?_
      simp only [go_sem]
      all_goals first | trivial | exact (modify_enc (f := strA) (v := xs.getD i default) rfl).trans (by rw [hset])
    · simp only [go_sem]
      have : i = xs.length := by omega
      subst this
      rw [midL_all xs (by simp)]
theorem ok64 (xs : List Int) (hs : xs.length ≤ 1048576) : VCalls gz 64 [.lst false 1 (xs.map intA)] none (fun y _ => y = .lst true 1 (xs.map intA)) := by
  refine VCalls.go (nt := 22) (keep := [0, 2, 3, 4, 11]) (muts := []) (mvs := []) [] f64_at rfl (by kernel_rfl) rfl (by kernel_rfl) rfl (fun i h => by cases h) rfl ?_
  intro hok
  simp only [go_sem] at hok
  simp only [Tryz.f64, Func.code, Option.getD_some]
  simp only [go_sem]
  intro hm
  refine ⟨by omega, by omega, ⟨by omega, by omega⟩, ?_⟩
  refine vm_loopK (α := Nat) (fun i => [(0, .lst false 1 (xs.map intA)), (3, .lst true 1 ((midL xs (List.replicate xs.length default) i).map intA)), (4, .lit (.int .i64 i))]) (fun i => i ≤ xs.length) (fun i => xs.length - i) 0 ?_ (by omega) (by kernel_rfl) (fun _ => rfl) ?_
  · simp only [go_sem]
    refine ⟨?_, rfl⟩
    rw [midL_zero, List.map_replicate]
    rfl
  · intro i hi hk
    have hml : (midL xs (List.replicate xs.length default) i).length = xs.length := midL_length hi (by simp)
    simp only [go_sem]
    intro _
    first | refine branch_ndec (fun h2 => ?_) (fun h2 => ?_) | refine branch_dec (fun h2 => ?_) (fun h2 => ?_) | refine branch_nbool (fun h2 => ?_) (fun h2 => ?_) | refine branch_split (fun h2 => ?_) (fun h2 => ?_)
    · have hlt : i < xs.length := by omega
      have h0 : (0 : Int) ≤ (i : Int) := by omega
      have hset := midL_set xs (List.replicate xs.length default) hlt (by simp)
      have hw3 : IntKind.i64.wrap ((i : Int) + 1) = ((i + 1 : Nat) : Int) := by rw [wrap64 (by omega) (by omega)]; omega
      simp only [go_sem, h0, hlt, h2, hml, hw3, hset]
      refine again_intro (i + 1) (by omega) (by omega) ?_
      simp only [go_sem]
      all_goals first | trivial | exact (modify_enc (f := intA) (v := xs.getD i default) rfl).trans (by rw [hset])
    · simp only [go_sem]
      have : i = xs.length := by omega
      subst this
      rw [midL_all xs (by simp)]
theorem ok98 (v : Vot) : VCalls gz 98 [v.enc] none (fun y _ => y = v.enc) := by
  refine VCalls.go (nt := 17) (keep := [0, 1, 2, 3]) (muts := []) (mvs := []) [] f98_at rfl (by kernel_rfl) rfl (by kernel_rfl) rfl (fun i h => by cases h) rfl ?_
  intro hok
  simp only [go_sem] at hok
  simp only [Tryz.f98, Func.code, Option.getD_some]
  simp only [go_sem]
theorem ok62 (xs : List Vot) (hs : xs.length ≤ 1048576) : VCalls gz 62 [.lst false 4 (xs.map Vot.enc)] none (fun y _ => y = .lst true 4 (xs.map Vot.enc)) := by
  refine VCalls.go (nt := 23) (keep := [0, 2, 3, 4, 11]) (muts := []) (mvs := []) [] f62_at rfl (by kernel_rfl) rfl (by kernel_rfl) rfl (fun i h => by cases h) rfl ?_
  intro hok
  simp only [go_sem] at hok
  simp only [Tryz.f62, Func.code, Option.getD_some]
  simp only [go_sem]
  intro hm
  refine ⟨by omega, by omega, ⟨by omega, by omega⟩, ?_⟩
  refine vm_loopK (α := Nat) (fun i => [(0, .lst false 4 (xs.map Vot.enc)), (3, .lst true 4 ((midL xs (List.replicate xs.length default) i).map Vot.enc)), (4, .lit (.int .i64 i))]) (fun i => i ≤ xs.length) (fun i => xs.length - i) 0 ?_ (by omega) (by kernel_rfl) (fun _ => rfl) ?_
  · simp only [go_sem]
    refine ⟨?_, rfl⟩
    rw [midL_zero, List.map_replicate]
    rfl
  · intro i hi hk
    have hml : (midL xs (List.replicate xs.length default) i).length = xs.length := midL_length hi (by simp)
    simp only [go_sem]
    intro _
    first | refine branch_ndec (fun h2 => ?_) (fun h2 => ?_) | refine branch_dec (fun h2 => ?_) (fun h2 => ?_) | refine branch_nbool (fun h2 => ?_) (fun h2 => ?_) | refine branch_split (fun h2 => ?_) (fun h2 => ?_)
    · have hlt : i < xs.length := by omega
      have h0 : (0 : Int) ≤ (i : Int) := by omega
      have hset := midL_set xs (List.replicate xs.length default) hlt (by simp)
      have hw3 : IntKind.i64.wrap ((i : Int) + 1) = ((i + 1 : Nat) : Int) := by rw [wrap64 (by omega) (by omega)]; omega
      simp only [go_sem, h0, hlt, h2]
      refine call_lend ?_
      simp only [go_sem]
      refine callN.eq (ok98 (xs.getD i default)) (by simp only [go_sem]) ?_
      simp only [go_sem]
      simp only [go_sem, h0, hlt, h2, hml, hw3, hset]
      refine again_intro (i + 1) (by omega) (by omega) ?_
      simp only [go_sem]
      first | trivial | exact (modify_enc (f := Vot.enc) (v := xs.getD i default) rfl).trans (by rw [hset])
    · simp only [go_sem]
      have : i = xs.length := by omega
      subst this
      rw [midL_all xs (by simp)]
theorem ok99 (v : Nws) : VCalls gz 99 [v.enc] none (fun y _ => y = v.enc) := by
  refine VCalls.go (nt := 11) (keep := [0, 1, 2, 3]) (muts := []) (mvs := []) [] f99_at rfl (by kernel_rfl) rfl (by kernel_rfl) rfl (fun i h => by cases h) rfl ?_
  intro hok
  simp only [go_sem] at hok
  simp only [Tryz.f99, Func.code, Option.getD_some]
  simp only [go_sem]
theorem ok63 (xs : List Nws) (hs : xs.length ≤ 1048576) : VCalls gz 63 [.lst false 2 (xs.map Nws.enc)] none (fun y _ => y = .lst true 2 (xs.map Nws.enc)) := by
  refine VCalls.go (nt := 23) (keep := [0, 2, 3, 4, 11]) (muts := []) (mvs := []) [] f63_at rfl (by kernel_rfl) rfl (by kernel_rfl) rfl (fun i h => by cases h) rfl ?_
  intro hok
  simp only [go_sem] at hok
  simp only [Tryz.f63, Func.code, Option.getD_some]
  simp only [go_sem]
  intro hm
  refine ⟨by omega, by omega, ⟨by omega, by omega⟩, ?_⟩
  refine vm_loopK (α := Nat) (fun i => [(0, .lst false 2 (xs.map Nws.enc)), (3, .lst true 2 ((midL xs (List.replicate xs.length default) i).map Nws.enc)), (4, .lit (.int .i64 i))]) (fun i => i ≤ xs.length) (fun i => xs.length - i) 0 ?_ (by omega) (by kernel_rfl) (fun _ => rfl) ?_
  · simp only [go_sem]
    refine ⟨?_, rfl⟩
    rw [midL_zero, List.map_replicate]
    rfl
  · intro i hi hk
    have hml : (midL xs (List.replicate xs.length default) i).length = xs.length := midL_length hi (by simp)
    simp only [go_sem]
    intro _
    first | refine branch_ndec (fun h2 => ?_) (fun h2 => ?_) | refine branch_dec (fun h2 => ?_) (fun h2 => ?_) | refine branch_nbool (fun h2 => ?_) (fun h2 => ?_) | refine branch_split (fun h2 => ?_) (fun h2 => ?_)
    · have hlt : i < xs.length := by omega
      have h0 : (0 : Int) ≤ (i : Int) := by omega
      have hset := midL_set xs (List.replicate xs.length default) hlt (by simp)
      have hw3 : IntKind.i64.wrap ((i : Int) + 1) = ((i + 1 : Nat) : Int) := by rw [wrap64 (by omega) (by omega)]; omega
      simp only [go_sem, h0, hlt, h2]
      refine call_lend ?_
      simp only [go_sem]
      refine callN.eq (ok99 (xs.getD i default)) (by simp only [go_sem]) ?_
      simp only [go_sem]
      simp only [go_sem, h0, hlt, h2, hml, hw3, hset]
      refine again_intro (i + 1) (by omega) (by omega) ?_
      simp only [go_sem]
      first | trivial | exact (modify_enc (f := Nws.enc) (v := xs.getD i default) rfl).trans (by rw [hset])
    · simp only [go_sem]
      have : i = xs.length := by omega
      subst this
      rw [midL_all xs (by simp)]
theorem ok60 (p : Prf) (hp : p.sz ≤ 1048576) : VCalls gz 60 [p.enc false] none (fun y _ => y = p.enc true) := by
  have hp2 : p.bys.length + p.tags.length ≤ 1048576 := hp
  refine VCalls.go (nt := 19) (keep := [0, 1, 2, 3]) (muts := []) (mvs := [6]) [] f60_at rfl (by kernel_rfl) rfl (by kernel_rfl) rfl (fun i h => by cases h) rfl ?_
  intro hok
  simp only [go_sem] at hok
  simp only [Tryz.f60, Func.code, Option.getD_some]
  simp only [go_sem]
  refine call_lend ?_
  simp only [go_sem]
  refine callN.eq (ok64 p.bys (by omega)) (by simp only [go_sem]) ?_
  simp only [go_sem]
  refine call_lend ?_
  simp only [go_sem]
  refine callN.eq (ok64 p.tags (by omega)) (by simp only [go_sem]) ?_
  simp only [go_sem]
theorem ok97 (b : Blk) (hb : b.sz ≤ 1048576) : VCalls gz 97 [b.enc false] none (fun y _ => y = b.enc true) := by
  have hb2 : b.proof.sz + szL ByteArray.size b.moves ≤ 1048576 := hb
  simp only [szL] at hb2
  refine VCalls.go (nt := 22) (keep := [0, 1, 2, 3]) (muts := []) (mvs := [4,7]) [] f97_at rfl (by kernel_rfl) rfl (by kernel_rfl) rfl (fun i h => by cases h) rfl ?_
  intro hok
  simp only [go_sem] at hok
  simp only [Tryz.f97, Func.code, Option.getD_some]
  simp only [go_sem]
  refine call_lend ?_
  simp only [go_sem]
  refine callN.eq (ok60 b.proof (by omega)) (by simp only [go_sem]) ?_
  simp only [go_sem]
  refine call_lend ?_
  simp only [go_sem]
  refine callN.eq (ok137 b.moves (by omega)) (by simp only [go_sem]) ?_
  simp only [go_sem]
end Go.VS
set_option linter.unusedSimpArgs false
set_option linter.unusedVariables false
open Go.Proofs
set_option maxRecDepth 20000
namespace Go.VS
theorem f61_at : gz.P.funcs[61]? = some Tryz.f61 := by
  have h : Tryz.prog.funcs[61]? = some Tryz.f61 := by kernel_rfl
  exact h
theorem f24_at : gz.P.funcs[24]? = some Tryz.f24 := by
  have h : Tryz.prog.funcs[24]? = some Tryz.f24 := by kernel_rfl
  exact h
theorem ok61 (xs : List Blk) (hs : xs.length ≤ 1048576) (hz : ∀ i, i < xs.length → Blk.sz (xs.getD i default) ≤ 1048576) : VCalls gz 61 [.lst false 8 (xs.map (Blk.enc false))] none (fun y _ => y = .lst true 8 (xs.map (Blk.enc true))) := by
  refine VCalls.go (nt := 23) (keep := [0, 2, 3, 4, 11]) (muts := []) (mvs := [5]) [] f61_at rfl (by kernel_rfl) rfl (by kernel_rfl) rfl (fun i h => by cases h) rfl ?_
  intro hok
  simp only [go_sem] at hok
  simp only [Tryz.f61, Func.code, Option.getD_some]
  simp only [go_sem]
  intro hm
  refine ⟨by omega, by omega, ⟨by omega, by omega⟩, ?_⟩
  refine vm_loopK (α := Nat) (fun i => [(0, .lst false 8 (xs.map (Blk.enc false))), (3, .lst true 8 ((midL xs (List.replicate xs.length default) i).map (Blk.enc true))), (4, .lit (.int .i64 i))]) (fun i => i ≤ xs.length) (fun i => xs.length - i) 0 ?_ (by omega) (by kernel_rfl) (fun _ => rfl) ?_
  · simp only [go_sem]
    refine ⟨?_, rfl⟩
    rw [midL_zero, List.map_replicate]
    rfl
  · intro i hi hk
    have hml : (midL xs (List.replicate xs.length default) i).length = xs.length := midL_length hi (by simp)
    simp only [go_sem]
    intro _
    first | refine branch_ndec (fun h2 => ?_) (fun h2 => ?_) | refine branch_dec (fun h2 => ?_) (fun h2 => ?_) | refine branch_nbool (fun h2 => ?_) (fun h2 => ?_) | refine branch_split (fun h2 => ?_) (fun h2 => ?_)
    · have hlt : i < xs.length := by omega
      have h0 : (0 : Int) ≤ (i : Int) := by omega
      have hset := midL_set xs (List.replicate xs.length default) hlt (by simp)
      have hw3 : IntKind.i64.wrap ((i : Int) + 1) = ((i + 1 : Nat) : Int) := by rw [wrap64 (by omega) (by omega)]; omega
      simp only [go_sem, h0, hlt, h2]
      refine call_lend ?_
      simp only [go_sem]
      refine callN.eq (ok97 (xs.getD i default) (hz i hlt)) (by simp only [go_sem]) ?_
      simp only [go_sem]
      simp only [go_sem, h0, hlt, h2, hml, hw3, hset]
      refine again_intro (i + 1) (by omega) (by omega) ?_
      simp only [go_sem]
      first | trivial | exact (modify_enc (f := (Blk.enc true)) (v := xs.getD i default) rfl).trans (by rw [hset])
    · simp only [go_sem]
      have : i = xs.length := by omega
      subst this
      rw [midL_all xs (by simp)]
theorem getD_sz {α : Type} [Inhabited α] {f : α → Nat} {xs : List α} {i : Nat} (h : i < xs.length) : f (xs.getD i default) ≤ szL f xs := by
  have h1 := szN_succ f xs h
  have h2 := szN_le f xs (i + 1)
  omega
theorem ok24 (r : Rpl) (hr : r.sz ≤ 1048576) : VCalls gz 24 [r.enc false] none (fun y _ => y = r.enc true) := by
  have hr2 : r.high.sz + szL Blk.sz r.blocks + r.votes.length + r.news.length + r.done.length ≤ 1048576 := hr
  have hz : ∀ i, i < r.blocks.length → Blk.sz (r.blocks.getD i default) ≤ 1048576 := fun i hi => by
    have := getD_sz (f := Blk.sz) hi
    omega
  have hl : r.blocks.length ≤ 1048576 := by
    have : szL Blk.sz r.blocks = r.blocks.length + (r.blocks.map Blk.sz).sum := rfl
    omega
  refine VCalls.go (nt := 43) (keep := [0, 1, 2, 3]) (muts := []) (mvs := [13]) [] f24_at rfl (by kernel_rfl) rfl (by kernel_rfl) rfl (fun i h => by cases h) rfl ?_
  intro hok
  simp only [go_sem] at hok
  simp only [Tryz.f24, Func.code, Option.getD_some]
  simp only [go_sem]
  refine call_lend ?_
  simp only [go_sem]
  refine callN.eq (ok60 r.high (by omega)) (by simp only [go_sem]) ?_
  simp only [go_sem]
  refine call_lend ?_
  simp only [go_sem]
  refine callN.eq (ok61 r.blocks hl hz) (by simp only [go_sem]) ?_
  simp only [go_sem]
  refine call_lend ?_
  simp only [go_sem]
  refine callN.eq (ok62 r.votes (by omega)) (by simp only [go_sem]) ?_
  simp only [go_sem]
  refine call_lend ?_
  simp only [go_sem]
  refine callN.eq (ok63 r.news (by omega)) (by simp only [go_sem]) ?_
  simp only [go_sem]
  refine call_lend ?_
  simp only [go_sem]
  refine callN.eq (ok64 r.done (by omega)) (by simp only [go_sem]) ?_
  simp only [go_sem]
end Go.VS
set_option linter.unusedSimpArgs false
set_option linter.unusedVariables false
open Go.Proofs
set_option maxRecDepth 20000
namespace Go.VS
theorem f170_at : gz.P.funcs[170]? = some Tryz.f170 := by
  have h : Tryz.prog.funcs[170]? = some Tryz.f170 := by kernel_rfl
  exact h
def Dev.ok (d : Dev) : Bool := decide (1 ≤ (d.secs.length : Int) ∧ (d.secs.length : Int) ≤ 16) && decide ((d.late.length : Int) ≤ 30) && !(d.secs.any fun s => decide (400 < (s.size : Int))) && !(d.late.any fun p => !d.fits p.place p.text)
end Go.VS
set_option linter.unusedSimpArgs false
set_option linter.unusedVariables false
open Go.Proofs
set_option maxRecDepth 20000
namespace Go.VS
theorem ok170 (xs : List ByteArray) (hx : xs.length * 16 ≤ 140737488355328) : VCalls gz 170 [.lst false 1 (xs.map strA)] none (fun y _ => y = .lst true 1 (xs.map strA)) := by
  refine VCalls.go (nt := 8) (keep := [0, 2, 4]) (muts := []) (mvs := []) [] f170_at rfl (by kernel_rfl) rfl (by kernel_rfl) rfl (fun i h => by cases h) rfl ?_
  intro hok
  simp only [go_sem] at hok
  simp only [Tryz.f170, Func.code, Option.getD_some]
  simp only [go_sem]
  intro b hb
  first | refine branch_ndec (fun h => ?_) (fun h => ?_) | refine branch_dec (fun h => ?_) (fun h => ?_) | refine branch_nbool (fun h => ?_) (fun h => ?_) | refine branch_split (fun h => ?_) (fun h => ?_)
  · simp only [go_sem]
    have h0 : xs = [] := List.eq_nil_of_length_eq_zero (Nat.eq_zero_of_not_pos fun h1 => by rw [hb h1] at h; cases h)
    subst h0
    simp only [go_sem]
  · simp only [go_sem]
    exact ⟨by omega, by omega⟩
end Go.VS
set_option linter.unusedSimpArgs false
set_option linter.unusedVariables false
open Go.Proofs
set_option maxRecDepth 20000
namespace Go.VS
theorem f149_at : gz.P.funcs[149]? = some Tryz.f149 := by
  have h : Tryz.prog.funcs[149]? = some Tryz.f149 := by kernel_rfl
  exact h
theorem f150_at : gz.P.funcs[150]? = some Tryz.f150 := by
  have h : Tryz.prog.funcs[150]? = some Tryz.f150 := by kernel_rfl
  exact h
theorem f146_at : gz.P.funcs[146]? = some Tryz.f146 := by
  have h : Tryz.prog.funcs[146]? = some Tryz.f146 := by kernel_rfl
  exact h
theorem f148_at : gz.P.funcs[148]? = some Tryz.f148 := by
  have h : Tryz.prog.funcs[148]? = some Tryz.f148 := by kernel_rfl
  exact h
theorem f147_at : gz.P.funcs[147]? = some Tryz.f147 := by
  have h : Tryz.prog.funcs[147]? = some Tryz.f147 := by kernel_rfl
  exact h
theorem ok149 (xs : List Vot) (hx : xs.length * 32 ≤ 140737488355328) : VCalls gz 149 [.lst false 4 (xs.map Vot.enc)] none (fun y _ => y = .lst true 4 (xs.map Vot.enc)) := by
  refine VCalls.go (nt := 8) (keep := [0, 2, 4]) (muts := []) (mvs := []) [] f149_at rfl (by kernel_rfl) rfl (by kernel_rfl) rfl (fun i h => by cases h) rfl ?_
  intro hok
  simp only [go_sem] at hok
  simp only [Tryz.f149, Func.code, Option.getD_some]
  simp only [go_sem]
  intro b hb
  first | refine branch_ndec (fun h => ?_) (fun h => ?_) | refine branch_dec (fun h => ?_) (fun h => ?_) | refine branch_nbool (fun h => ?_) (fun h => ?_) | refine branch_split (fun h => ?_) (fun h => ?_)
  · simp only [go_sem]
    have h0 : xs = [] := List.eq_nil_of_length_eq_zero (Nat.eq_zero_of_not_pos fun h1 => by rw [hb h1] at h; cases h)
    subst h0
    simp only [go_sem]
  · simp only [go_sem]
    exact ⟨by omega, by omega⟩
theorem ok150 (xs : List Nws) (hx : xs.length * 16 ≤ 140737488355328) : VCalls gz 150 [.lst false 2 (xs.map Nws.enc)] none (fun y _ => y = .lst true 2 (xs.map Nws.enc)) := by
  refine VCalls.go (nt := 8) (keep := [0, 2, 4]) (muts := []) (mvs := []) [] f150_at rfl (by kernel_rfl) rfl (by kernel_rfl) rfl (fun i h => by cases h) rfl ?_
  intro hok
  simp only [go_sem] at hok
  simp only [Tryz.f150, Func.code, Option.getD_some]
  simp only [go_sem]
  intro b hb
  first | refine branch_ndec (fun h => ?_) (fun h => ?_) | refine branch_dec (fun h => ?_) (fun h => ?_) | refine branch_nbool (fun h => ?_) (fun h => ?_) | refine branch_split (fun h => ?_) (fun h => ?_)
  · simp only [go_sem]
    have h0 : xs = [] := List.eq_nil_of_length_eq_zero (Nat.eq_zero_of_not_pos fun h1 => by rw [hb h1] at h; cases h)
    subst h0
    simp only [go_sem]
  · simp only [go_sem]
    exact ⟨by omega, by omega⟩
theorem ok146 (p : Prf) (hp : p.sz ≤ 1048576) : VCalls gz 146 [p.enc false] none (fun y _ => y = p.enc true) := by
  have hp2 : p.bys.length + p.tags.length ≤ 1048576 := hp
  refine VCalls.go (nt := 12) (keep := [0, 1, 2]) (muts := []) (mvs := [1,2]) [(1, .tree false (.take 0 (.take 3 (.all (.cons 1 (.all (.cons 2 (.all (.cons 4 (.take 6 (.all (.cons 5 (.all (.cons 7 (.take 8 (.all (.cons 9 .done .nil))) .nil)) .nil))) .nil)) (.cons 4 (.all (.cons 2 (.take 6 (.all (.cons 5 (.all (.cons 7 (.take 8 (.all (.cons 9 .done .nil))) .nil)) .nil))) .nil)) .nil))) (.cons 4 (.all (.cons 1 (.all (.cons 2 (.take 6 (.all (.cons 5 (.all (.cons 7 (.take 8 (.all (.cons 9 .done .nil))) .nil)) .nil))) .nil)) .nil)) .nil))))))] f146_at rfl (by kernel_rfl) rfl (by kernel_rfl) rfl (fun i h => by cases h) rfl ?_
  intro hok
  simp only [go_sem] at hok
  simp only [Tryz.f146, Func.code, Option.getD_some]
  simp only [go_sem]
  repeat' refine And.intro ?_ ?_
  all_goals
    refine call_lend ?_
    simp only [go_sem]
    refine callN.eq (ok76 p.bys (by omega)) (by simp only [go_sem]) ?_
    simp only [go_sem]
    refine call_lend ?_
    simp only [go_sem]
    refine callN.eq (ok76 p.tags (by omega)) (by simp only [go_sem]) ?_
    simp only [go_sem]
theorem ok148 (b : Blk) (hb : b.sz ≤ 1048576) : VCalls gz 148 [b.enc false] none (fun y _ => y = b.enc true) := by
  have hb2 : b.proof.sz + szL ByteArray.size b.moves ≤ 1048576 := hb
  simp only [szL] at hb2
  refine VCalls.go (nt := 12) (keep := [0, 1, 2]) (muts := []) (mvs := [1,3]) [] f148_at rfl (by kernel_rfl) rfl (by kernel_rfl) rfl (fun i h => by cases h) rfl ?_
  intro hok
  simp only [go_sem] at hok
  simp only [Tryz.f148, Func.code, Option.getD_some]
  simp only [go_sem]
  refine call_lend ?_
  simp only [go_sem]
  refine callN.eq (ok146 b.proof (by omega)) (by simp only [go_sem]) ?_
  simp only [go_sem]
  refine call_lend ?_
  simp only [go_sem]
  refine callN.eq (ok170 b.moves (by omega)) (by simp only [go_sem]) ?_
  simp only [go_sem]
theorem ok147 (xs : List Blk) (hx : xs.length * 112 ≤ 140737488355328) : VCalls gz 147 [.lst false 8 (xs.map (Blk.enc false))] none (fun y _ => y = .lst true 8 (xs.map (Blk.enc false))) := by
  refine VCalls.go (nt := 8) (keep := [0, 2, 4]) (muts := []) (mvs := []) [] f147_at rfl (by kernel_rfl) rfl (by kernel_rfl) rfl (fun i h => by cases h) rfl ?_
  intro hok
  simp only [go_sem] at hok
  simp only [Tryz.f147, Func.code, Option.getD_some]
  simp only [go_sem]
  intro b hb
  first | refine branch_ndec (fun h => ?_) (fun h => ?_) | refine branch_dec (fun h => ?_) (fun h => ?_) | refine branch_nbool (fun h => ?_) (fun h => ?_) | refine branch_split (fun h => ?_) (fun h => ?_)
  · simp only [go_sem]
    have h0 : xs = [] := List.eq_nil_of_length_eq_zero (Nat.eq_zero_of_not_pos fun h1 => by rw [hb h1] at h; cases h)
    subst h0
    simp only [go_sem]
  · simp only [go_sem]
    exact ⟨by omega, by omega⟩
end Go.VS
