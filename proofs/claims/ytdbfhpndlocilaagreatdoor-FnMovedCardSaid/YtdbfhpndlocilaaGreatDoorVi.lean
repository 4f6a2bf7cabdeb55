/- VS: functions by the machine. -/
import Derived.Test.YtdbfhpndlocilaaGreatDoorVh
import Derived.Test.YtdbfhpndlocilaaGreatDoorVn
import Derived.Test.YtdbfhpndlocilaaGreatDoorVf
set_option linter.unusedSimpArgs false
set_option linter.unusedVariables false
open Go.Proofs Go.RowKit
set_option maxRecDepth 20000
namespace Go.VS
theorem f40_at : gz.P.funcs[40]? = some Tryz.f40 := by
  have h : Tryz.prog.funcs[40]? = some Tryz.f40 := by kernel_rfl
  exact h
theorem f10_at : gz.P.funcs[10]? = some Tryz.f10 := by
  have h : Tryz.prog.funcs[10]? = some Tryz.f10 := by kernel_rfl
  exact h
theorem modify_intE {i : Nat} {xs : List Int} {v : Int} : (xs.map intA).modify i (putF [] (.lit (.int .i64 v))) = (xs.set i v).map intA := modify_enc (f := intA) rfl
theorem tkl {xs : List Int} {n : Nat} (h : xs.length = n) : List.take n xs = xs := by
  rw [← h]
  exact List.take_length
attribute [go_sem] modify_intE List.length_set
set_option maxHeartbeats 2000000 in
theorem ok40 (b : Bnk) (m : Mv) (hb : b.ok = true) (hm : m.ok = true) :
    VMut gz 40 [b.enc true, m.enc] 0 (fun y x' => y = .lit (.int .i64 (b.mv m).2) ∧ x' = (b.mv m).1.enc true) := by
  obtain ⟨⟨h1, h2⟩, ⟨h3, h4⟩, h5⟩ := Bnk.ok_iff.1 hb
  obtain ⟨m1, m2, m3, m4⟩ := Mv.ok_iff.1 hm
  have q1 : (0 : Int) ≤ m.src := m1.1
  have q2 : m.src < (b.counts.length : Int) := by omega
  have q3 : m.src.toNat < b.counts.length := by omega
  have q4 : m.src < (b.money.length : Int) := by omega
  have q5 : m.src.toNat < b.money.length := by omega
  have q6 : (0 : Int) ≤ m.dst := m2.1
  have q7 : m.dst < (b.money.length : Int) := by omega
  have q8 : m.dst.toNat < b.money.length := by omega
  refine VMut.go (nt := 57) (keep := [0, 1, 2, 3, 4, 5, 9, 19]) (i := 0) (mvs := []) [(3, .tree true (.take 0 (.take 1 (.take 2 (.take 3 (.take 4 (.take 5 (.take 6 (.take 7 (.take 8 (.all (.cons 9 .done .nil)))))))))))), (5, .tree true (.take 0 (.take 1 (.take 2 (.take 3 (.take 4 (.take 5 (.take 6 (.take 7 (.take 8 (.all (.cons 9 .done .nil)))))))))))), (7, .tree false (.take 0 (.take 2 (.take 6 (.all (.cons 1 (.all (.cons 3 (.take 4 (.all (.cons 5 (.all (.cons 7 (.take 8 (.take 9 (.all (.cons 10 .done .nil)))) .nil)) (.cons 7 (.all (.cons 5 (.take 8 (.take 9 (.all (.cons 10 .done .nil)))) .nil)) .nil)))) (.cons 7 (.all (.cons 3 (.take 4 (.all (.cons 5 (.take 8 (.take 9 (.all (.cons 10 .done .nil)))) .nil))) .nil)) .nil))) (.cons 3 (.all (.cons 1 (.take 4 (.all (.cons 5 (.all (.cons 7 (.take 8 (.take 9 (.all (.cons 10 .done .nil)))) .nil)) (.cons 7 (.all (.cons 5 (.take 8 (.take 9 (.all (.cons 10 .done .nil)))) .nil)) .nil)))) (.cons 7 (.all (.cons 1 (.take 4 (.all (.cons 5 (.take 8 (.take 9 (.all (.cons 10 .done .nil)))) .nil))) .nil)) .nil))) (.cons 7 (.all (.cons 1 (.all (.cons 3 (.take 4 (.all (.cons 5 (.take 8 (.take 9 (.all (.cons 10 .done .nil)))) .nil))) .nil)) (.cons 3 (.all (.cons 1 (.take 4 (.all (.cons 5 (.take 8 (.take 9 (.all (.cons 10 .done .nil)))) .nil))) .nil)) .nil))) .nil)))))))), (8, .tree false (.take 0 (.take 2 (.take 6 (.all (.cons 1 (.all (.cons 3 (.take 4 (.all (.cons 5 (.all (.cons 7 (.take 8 (.take 9 (.all (.cons 10 .done .nil)))) .nil)) (.cons 7 (.all (.cons 5 (.take 8 (.take 9 (.all (.cons 10 .done .nil)))) .nil)) .nil)))) (.cons 7 (.all (.cons 3 (.take 4 (.all (.cons 5 (.take 8 (.take 9 (.all (.cons 10 .done .nil)))) .nil))) .nil)) .nil))) (.cons 3 (.all (.cons 1 (.take 4 (.all (.cons 5 (.all (.cons 7 (.take 8 (.take 9 (.all (.cons 10 .done .nil)))) .nil)) (.cons 7 (.all (.cons 5 (.take 8 (.take 9 (.all (.cons 10 .done .nil)))) .nil)) .nil)))) (.cons 7 (.all (.cons 1 (.take 4 (.all (.cons 5 (.take 8 (.take 9 (.all (.cons 10 .done .nil)))) .nil))) .nil)) .nil))) (.cons 7 (.all (.cons 1 (.all (.cons 3 (.take 4 (.all (.cons 5 (.take 8 (.take 9 (.all (.cons 10 .done .nil)))) .nil))) .nil)) (.cons 3 (.all (.cons 1 (.take 4 (.all (.cons 5 (.take 8 (.take 9 (.all (.cons 10 .done .nil)))) .nil))) .nil)) .nil))) .nil))))))))] f40_at rfl (by kernel_rfl) rfl (by kernel_rfl) rfl rfl rfl ?_
  intro hok
  simp only [go_sem] at hok
  simp only [Tryz.f40, Func.code, Option.getD_some]
  simp only [go_sem]
  refine call_lend ?_
  simp only [go_sem]
  refine callN.eq (ok14 m) (by simp only [go_sem]) ?_
  simp only [go_sem]
  simp only [go_sem, hm, q1, q2, q3]
  by_cases g1 : m.cnt = b.counts.getD m.src.toNat default
  rotate_left
  · have : b.mv m = (b, 2) := by rw [Bnk.mv, if_pos g1]
    simp only [go_sem, g1, this]
    try trivial
  simp only [go_sem, eq_true g1, hm, q1, q2, q3, q4, q5]
  by_cases g2 : b.money.getD m.src.toNat default < m.sum
  · have : b.mv m = (b, 3) := by rw [Bnk.mv, if_neg (not_not_intro g1), if_pos g2]
    simp only [go_sem, eq_true g2, this]
    try trivial
  have e : b.mv m = (b.put m, 0) := by rw [Bnk.mv, if_neg (not_not_intro g1), if_neg g2]
  rw [e]
  have z1 := h2 _ (getD_mem q5)
  have w1 : IntKind.i64.wrap (b.money.getD m.src.toNat default - m.sum) = b.money.getD m.src.toNat default - m.sum := wrap64 (by omega) (by omega)
  have z2 : 0 ≤ (b.money.set m.src.toNat (b.money.getD m.src.toNat default - m.sum)).getD m.dst.toNat default ∧ (b.money.set m.src.toNat (b.money.getD m.src.toNat default - m.sum)).getD m.dst.toNat default ≤ 1000000000 := by
    rcases set_mem (getD_mem (xs := b.money.set m.src.toNat (b.money.getD m.src.toNat default - m.sum)) (i := m.dst.toNat) (by rw [List.length_set]; exact q8)) with hx | hx
    · exact h2 _ hx
    · omega
  have w2 : IntKind.i64.wrap ((b.money.set m.src.toNat (b.money.getD m.src.toNat default - m.sum)).getD m.dst.toNat default + m.sum) = (b.money.set m.src.toNat (b.money.getD m.src.toNat default - m.sum)).getD m.dst.toNat default + m.sum := wrap64 (by omega) (by omega)
  have z3 := h4 _ (getD_mem q3)
  have w3 : IntKind.i64.wrap (b.counts.getD m.src.toNat default + 1) = b.counts.getD m.src.toNat default + 1 := wrap64 (by omega) (by omega)
  simp only [go_sem, eq_false g2, hm, q1, q2, q3, q4, q5, q6, q7, q8, w1, w2, w3]
  exact ⟨rfl, rfl⟩
set_option maxHeartbeats 4000000 in
theorem ok10 (b : Bnk) (m : Mv) (hb : b.ok = true) (hm : m.ok = true) :
    VCalls gz 10 [b.enc false, m.enc] none (fun y _ => y = .tup [(b.mv m).1.enc true, .lit (.int .i64 (b.mv m).2)]) := by
  obtain ⟨⟨h1, h2⟩, ⟨h3, h4⟩, h5⟩ := Bnk.ok_iff.1 hb
  obtain ⟨m1, m2, m3, m4⟩ := Mv.ok_iff.1 hm
  have q1 : (0 : Int) ≤ m.src := m1.1
  have q2 : m.src < (b.counts.length : Int) := by omega
  have q3 : m.src.toNat < b.counts.length := by omega
  have q4 : m.src < (b.money.length : Int) := by omega
  have q5 : m.src.toNat < b.money.length := by omega
  have q6 : (0 : Int) ≤ m.dst := m2.1
  have q7 : m.dst < (b.money.length : Int) := by omega
  have q8 : m.dst.toNat < b.money.length := by omega
  refine VCalls.go (nt := 81) (keep := [0, 1, 2, 3, 4, 5, 6, 14, 18, 29]) (muts := []) (mvs := []) [(4, .tree true (.take 0 (.take 1 (.take 2 (.take 3 (.take 4 (.take 5 (.take 6 (.take 7 (.take 8 (.all (.cons 9 .done .nil)))))))))))), (6, .tree true (.take 0 (.take 1 (.take 2 (.take 3 (.take 4 (.take 5 (.take 6 (.take 7 (.take 8 (.all (.cons 9 .done .nil)))))))))))), (8, .tree true (.take 0 (.take 1 (.take 2 (.take 3 (.take 4 (.take 5 (.take 6 (.take 7 (.take 8 (.take 9 (.take 10 (.take 11 (.take 12 (.take 13 (.last 14)))))))))))))))), (9, .tree true (.take 0 (.take 1 (.take 2 (.take 3 (.take 4 (.take 5 (.take 6 (.take 7 (.take 8 (.take 9 (.take 10 (.take 11 (.take 12 (.take 13 (.last 14)))))))))))))))), (10, .tree true (.take 0 (.take 1 (.take 2 (.take 3 (.take 4 (.take 5 (.take 6 (.take 7 (.take 8 (.take 9 (.take 10 (.take 11 (.last 12))))))))))))))] f10_at rfl (by kernel_rfl) rfl (by kernel_rfl) rfl (fun i h => by cases h) rfl ?_
  intro hok
  simp only [go_sem] at hok
  simp only [Tryz.f10, Func.code, Option.getD_some]
  simp only [go_sem]
  refine call_lend ?_
  simp only [go_sem]
  refine callN.eq (ok13 b) (by simp only [go_sem]) ?_
  simp only [go_sem]
  simp only [go_sem, hb]
  refine call_lend ?_
  simp only [go_sem]
  refine callN.eq (ok15 m) (by simp only [go_sem]) ?_
  simp only [go_sem]
  simp only [go_sem, hm]
  refine call_lend ?_
  simp only [go_sem]
  refine callN.eq (ok45 b (by omega) (by omega)) (by simp only [go_sem]) ?_
  simp only [go_sem]
  simp only [go_sem, hm, q1, q2, q3]
  by_cases g1 : m.cnt = b.counts.getD m.src.toNat default
  rotate_left
  · have : b.mv m = (b, 2) := by rw [Bnk.mv, if_pos g1]
    simp only [go_sem, g1, this]
    try trivial
  simp only [go_sem, eq_true g1, hm, q1, q2, q3, q4, q5]
  by_cases g2 : b.money.getD m.src.toNat default < m.sum
  · have : b.mv m = (b, 3) := by rw [Bnk.mv, if_neg (not_not_intro g1), if_pos g2]
    simp only [go_sem, eq_true g2, this]
    try trivial
  have e : b.mv m = (b.put m, 0) := by rw [Bnk.mv, if_neg (not_not_intro g1), if_neg g2]
  rw [e]
  have z1 := h2 _ (getD_mem q5)
  have w1 : IntKind.i64.wrap (b.money.getD m.src.toNat default - m.sum) = b.money.getD m.src.toNat default - m.sum := wrap64 (by omega) (by omega)
  have z2 : 0 ≤ (b.money.set m.src.toNat (b.money.getD m.src.toNat default - m.sum)).getD m.dst.toNat default ∧ (b.money.set m.src.toNat (b.money.getD m.src.toNat default - m.sum)).getD m.dst.toNat default ≤ 1000000000 := by
    rcases set_mem (getD_mem (xs := b.money.set m.src.toNat (b.money.getD m.src.toNat default - m.sum)) (i := m.dst.toNat) (by rw [List.length_set]; exact q8)) with hx | hx
    · exact h2 _ hx
    · omega
  have w2 : IntKind.i64.wrap ((b.money.set m.src.toNat (b.money.getD m.src.toNat default - m.sum)).getD m.dst.toNat default + m.sum) = (b.money.set m.src.toNat (b.money.getD m.src.toNat default - m.sum)).getD m.dst.toNat default + m.sum := wrap64 (by omega) (by omega)
  have z3 := h4 _ (getD_mem q3)
  have w3 : IntKind.i64.wrap (b.counts.getD m.src.toNat default + 1) = b.counts.getD m.src.toNat default + 1 := wrap64 (by omega) (by omega)
  simp only [go_sem, eq_false g2, hm, q1, q2, q3, q4, q5, q6, q7, q8, w1, w2, w3]
  rw [tkl (by simp only [List.length_set]), tkl (by simp only [List.length_set])]
  exact ⟨rfl, rfl⟩
end Go.VS
set_option linter.unusedSimpArgs false
set_option linter.unusedVariables false
open Go.Proofs Go.RowKit
set_option maxRecDepth 20000
namespace Go.VS
theorem f16_at : gz.P.funcs[16]? = some Tryz.f16 := by
  have h : Tryz.prog.funcs[16]? = some Tryz.f16 := by kernel_rfl
  exact h
theorem f9_at : gz.P.funcs[9]? = some Tryz.f9 := by
  have h : Tryz.prog.funcs[9]? = some Tryz.f9 := by kernel_rfl
  exact h
noncomputable def Bnk.ans (b : Bnk) (l : List ByteArray) : Bnk × List Int := if b.ok = true then b.run l l.length else (⟨[], []⟩, [])
theorem rdA_none : rdA none = .tup [mv0.enc, .lit (.bool false)] := rfl
theorem rdA_some {m : Mv} : rdA (some m) = .tup [m.enc, .lit (.bool true)] := rfl
theorem Bnk.ok_len {b : Bnk} (h : b.ok = true) : b.money.length = 8 ∧ b.counts.length = 8 := ⟨(Bnk.ok_iff.1 h).1.1, (Bnk.ok_iff.1 h).2.1.1⟩
theorem Bnk.mv_len {b : Bnk} {m : Mv} : (b.mv m).1.money.length = b.money.length ∧ (b.mv m).1.counts.length = b.counts.length := by
  unfold Bnk.mv
  split
  · exact ⟨rfl, rfl⟩
  · split
    · exact ⟨rfl, rfl⟩
    · simp only [Bnk.put, List.length_set, and_self]
set_option maxHeartbeats 2000000 in
theorem ok9 (b : Bnk) (l : List ByteArray) (hb1 : b.money.length ≤ 1048576) (hb2 : b.counts.length ≤ 1048576) (hl : l.length ≤ 1099511627776) (hs : ∀ s ∈ l, s.size ≤ 4000000) : VCalls gz 9 [b.enc false, .lst false 1 (l.map strA)] none (fun y _ => y = .tup [(b.ans l).1.enc true, .lst true 1 ((b.ans l).2.map intA)]) := by
  refine VCalls.go (nt := 42) (keep := [0, 1, 2, 4, 5, 6, 7, 9, 10, 11, 12, 15, 20, 21, 22, 23, 31]) (muts := []) (mvs := []) [] f9_at rfl (by kernel_rfl) rfl (by kernel_rfl) rfl (fun i h => by cases h) rfl ?_
  intro hok
  simp only [go_sem] at hok
  simp only [Tryz.f9, Func.code, Option.getD_some]
  simp only [go_sem]
  refine call_lend ?_
  simp only [go_sem]
  refine callN.eq (ok12 b) (by simp only [go_sem]) ?_
  simp only [go_sem]
  cases h : b.ok
  · have : b.ans l = (⟨[], []⟩, []) := if_neg (by rw [h]; decide)
    simp only [go_sem, this]
    try trivial
  have ea : b.ans l = b.run l l.length := if_pos h
  simp only [go_sem]
  refine call_lend ?_
  simp only [go_sem]
  refine callN.eq (ok39 b hb1 hb2) (by simp only [go_sem]) ?_
  simp only [go_sem]
  intro hm
  refine vm_loopK (α := Nat) (fun i => [(2, .ptr true (b.enc false)), (4, .ptr true (Bnk.enc true ⟨[], []⟩)), (6, .ptr true ((b.run l i).1.enc true)), (7, .lst true 1 ((b.run l i).2.map intA)), (20, .lst false 1 (l.map strA)), (21, .lit (.int .i64 l.length)), (22, .lit (.int .i64 i))]) (fun i => i ≤ l.length) (fun i => l.length - i) 0 ?_ (by omega) (by kernel_rfl) (fun _ => rfl) ?_
  · simp only [go_sem, Bnk.run]
    try trivial
  · intro i hi hk
    have hlr := Bnk.run_len b l i
    have hro := (Bnk.run_ok h l i).1
    have hrl := Bnk.ok_len hro
    simp only [go_sem]
    first | refine branch_ndec (fun h6 => ?_) (fun h6 => ?_) | refine branch_dec (fun h6 => ?_) (fun h6 => ?_) | refine branch_nbool (fun h6 => ?_) (fun h6 => ?_) | refine branch_split (fun h6 => ?_) (fun h6 => ?_)
    · have hlt : i < l.length := by omega
      have h0 : (0 : Int) ≤ (i : Int) := by omega
      have hw3 : IntKind.i64.wrap ((i : Int) + 1) = ((i + 1 : Nat) : Int) := by rw [wrap64 (by omega) (by omega)]; omega
      simp only [go_sem, h0, hlt, h6]
      have hr := ok44 (l.getD i default) (hs _ (getD_mem hlt))
      cases g : rdM (l.getD i default) with
      | none =>
        have e : b.run l (i + 1) = ((b.run l i).1, (b.run l i).2 ++ [1]) := by simp only [Bnk.run, Bnk.ln, g]
        rw [g, rdA_none] at hr
        refine call_lend ?_
        simp only [go_sem]
        refine callN.eq (hr) (by simp only [go_sem]) ?_
        simp only [go_sem]
        refine ⟨by omega, ?_⟩
        rw [hw3]
        refine again_intro (i + 1) (by omega) (by omega) ?_
        simp only [go_sem, e]
        try trivial
      | some m =>
        have e : b.run l (i + 1) = (((b.run l i).1.mv m).1, (b.run l i).2 ++ [((b.run l i).1.mv m).2]) := by simp only [Bnk.run, Bnk.ln, g]
        have hml := Bnk.mv_len (b := (b.run l i).1) (m := m)
        rw [g, rdA_some] at hr
        refine call_lend ?_
        simp only [go_sem]
        refine callN.eq (hr) (by simp only [go_sem]) ?_
        simp only [go_sem]
        refine call_give 0 6 [.idx 0] rfl rfl rfl (by simp only [go_sem]; rfl) (by simp only [go_sem, List.getElem?_cons_zero, List.getElem?_cons_succ]) (by simp only [go_sem]) (by simp only [go_sem]) (by simp only [go_sem]) ?_
        simp only [go_sem, List.set]
        refine callW.eq (ok40 (b.run l i).1 m hro (rdM_ok g).1) ?_
        simp only [go_sem]
        refine ⟨hml, ⟨by omega, by omega⟩, ?_⟩
        rw [hw3]
        refine again_intro (i + 1) (by omega) (by omega) ?_
        simp only [go_sem, e]
        try trivial
    · have hie : i = l.length := by omega
      subst hie
      rw [ea]
      simp only [go_sem]
      try trivial
set_option maxHeartbeats 2000000 in
theorem ok16 (b : Bnk) (l : List ByteArray) (hb1 : b.money.length ≤ 1048576) (hb2 : b.counts.length ≤ 1048576) (hl : l.length ≤ 1099511627776) (hs : ∀ s ∈ l, s.size ≤ 4000000) : VCalls gz 16 [b.enc false, .lst false 1 (l.map strA)] none (fun y _ => y = .tup [(b.ans l).1.enc true, .lst true 1 ((b.ans l).2.map intA)]) := by
  refine VCalls.go (nt := 53) (keep := [0, 1, 2, 4, 5, 6, 7, 8, 9, 10, 11, 12, 16, 24, 36]) (muts := []) (mvs := [12]) [] f16_at rfl (by kernel_rfl) rfl (by kernel_rfl) rfl (fun i h => by cases h) rfl ?_
  intro hok
  simp only [go_sem] at hok
  simp only [Tryz.f16, Func.code, Option.getD_some]
  simp only [go_sem]
  refine call_lend ?_
  simp only [go_sem]
  refine callN.eq (ok13 b) (by simp only [go_sem]) ?_
  simp only [go_sem]
  cases h : b.ok
  · have : b.ans l = (⟨[], []⟩, []) := if_neg (by rw [h]; decide)
    simp only [go_sem, this]
    try trivial
  have ea : b.ans l = b.run l l.length := if_pos h
  simp only [go_sem]
  refine call_lend ?_
  simp only [go_sem]
  refine callN.eq (ok45 b hb1 hb2) (by simp only [go_sem]) ?_
  simp only [go_sem]
  refine vm_loopK (α := Nat) (fun i => [(1, .lst false 1 (l.map strA)), (2, .ptr true (b.enc false)), (4, .ptr true (Bnk.enc true ⟨[], []⟩)), (6, .lst true 1 ((b.run l i).2.map intA)), (7, .ptr true ((b.run l i).1.enc true)), (8, .lit (.int .i64 i))]) (fun i => i ≤ l.length) (fun i => l.length - i) 0 ?_ (by omega) (by kernel_rfl) (fun _ => rfl) ?_
  · simp only [go_sem, Bnk.run]
    try trivial
  · intro i hi hk
    have hlr := Bnk.run_len b l i
    have hro := (Bnk.run_ok h l i).1
    have hrl := Bnk.ok_len hro
    simp only [go_sem]
    intro hm
    first | refine branch_ndec (fun h6 => ?_) (fun h6 => ?_) | refine branch_dec (fun h6 => ?_) (fun h6 => ?_) | refine branch_nbool (fun h6 => ?_) (fun h6 => ?_) | refine branch_split (fun h6 => ?_) (fun h6 => ?_)
    · have hlt : i < l.length := by omega
      have h0 : (0 : Int) ≤ (i : Int) := by omega
      have hw3 : IntKind.i64.wrap ((i : Int) + 1) = ((i + 1 : Nat) : Int) := by rw [wrap64 (by omega) (by omega)]; omega
      simp only [go_sem, h0, hlt, h6]
      have hr := ok51 (l.getD i default) (hs _ (getD_mem hlt))
      cases g : rdM (l.getD i default) with
      | none =>
        have e : b.run l (i + 1) = ((b.run l i).1, (b.run l i).2 ++ [1]) := by simp only [Bnk.run, Bnk.ln, g]
        rw [g, rdA_none] at hr
        refine call_lend ?_
        simp only [go_sem]
        refine callN.eq (hr) (by simp only [go_sem]) ?_
        simp only [go_sem]
        refine ⟨by omega, ?_⟩
        rw [hw3]
        refine again_intro (i + 1) (by omega) (by omega) ?_
        simp only [go_sem, e]
        try trivial
      | some m =>
        have e : b.run l (i + 1) = (((b.run l i).1.mv m).1, (b.run l i).2 ++ [((b.run l i).1.mv m).2]) := by simp only [Bnk.run, Bnk.ln, g]
        rw [g, rdA_some] at hr
        refine call_lend ?_
        simp only [go_sem]
        refine callN.eq (hr) (by simp only [go_sem]) ?_
        simp only [go_sem]
        refine call_lend ?_
        simp only [go_sem]
        refine callN.eq (ok10 (b.run l i).1 m hro (rdM_ok g).1) (by simp only [go_sem]) ?_
        simp only [go_sem]
        refine ⟨by omega, ?_⟩
        rw [hw3]
        refine again_intro (i + 1) (by omega) (by omega) ?_
        simp only [go_sem, e]
        try trivial
    · have hie : i = l.length := by omega
      subst hie
      rw [ea]
      simp only [go_sem]
      try trivial
end Go.VS
set_option linter.unusedSimpArgs false
set_option linter.unusedVariables false
open Go.Proofs
set_option maxRecDepth 20000
namespace Go.VS
def Dev.ok (d : Dev) : Bool := decide (1 ≤ (d.secs.length : Int) ∧ (d.secs.length : Int) ≤ 16) && decide ((d.late.length : Int) ≤ 30) && !(d.secs.any fun s => decide (400 < (s.size : Int))) && !(d.late.any fun p => !d.fits p.place p.text)
end Go.VS
set_option linter.unusedSimpArgs false
set_option linter.unusedVariables false
open Go.Proofs
set_option maxRecDepth 20000
namespace Go.VS
end Go.VS
set_option linter.unusedSimpArgs false
set_option linter.unusedVariables false
open Go.Proofs
set_option maxRecDepth 20000
namespace Go.VS
theorem modify_strA {i : Nat} {xs : List ByteArray} {v : ByteArray} : (xs.map strA).modify i (putF [] (.lit (.string v))) = (xs.set i v).map strA := modify_map (f := strA)
attribute [go_sem] modify_strA
def boolA (b : Bool) : AVal := .lit (.bool b)
theorem boolA_eq {b : Bool} : boolA b = .lit (.bool b) := nr rfl
attribute [go_sem] boolA_eq
def Dev.none : Dev := ⟨[], []⟩
end Go.VS
set_option linter.unusedSimpArgs false
set_option linter.unusedVariables false
open Go.Proofs
set_option maxRecDepth 20000
namespace Go.VS
end Go.VS
set_option linter.unusedSimpArgs false
set_option linter.unusedVariables false
open Go.Proofs
set_option maxRecDepth 20000
namespace Go.VS
def liesN (late : List Patch) (a : Int) (s : ByteArray) : Nat → ByteArray
  | 0 => s
  | i + 1 => if (late.getD i default).place = a then (late.getD i default).text else liesN late a s i
def Dev.lies (d : Dev) (a : Int) : ByteArray := if d.ok = true ∧ 0 ≤ a ∧ a < d.secs.length then liesN d.late a (d.secs.getD a.toNat default) d.late.length else ByteArray.empty
end Go.VS
set_option linter.unusedSimpArgs false
set_option linter.unusedVariables false
open Go.Proofs
set_option maxRecDepth 20000
namespace Go.VS
theorem f5_at : gz.P.funcs[5]? = some Tryz.f5 := by
  have h : Tryz.prog.funcs[5]? = some Tryz.f5 := by kernel_rfl
  exact h
theorem ok5 (l : List UInt8) : VCalls gz 5 [.lst false 1 (l.map byteA)] none (fun y _ => y = .lit (.bool (decide (4096 < (l.length : Int))))) := by
  refine VCalls.go (nt := 6) (keep := [0, 2]) (muts := []) (mvs := []) [] f5_at rfl (by kernel_rfl) rfl (by kernel_rfl) rfl (fun i h => by cases h) rfl ?_
  intro hok
  simp only [go_sem] at hok
  simp only [Tryz.f5, Func.code, Option.getD_some]
  simp only [go_sem]
theorem Patch.same {p q : Patch} (h1 : p.place = q.place) (h2 : p.text = q.text) : p = q := by
  cases p
  cases q
  simp only at h1 h2
  rw [h1, h2]
end Go.VS
set_option linter.unusedSimpArgs false
set_option linter.unusedVariables false
open Go.Proofs
set_option maxRecDepth 20000
namespace Go.VS
theorem f34_at : gz.P.funcs[34]? = some Tryz.f34 := by
  have h : Tryz.prog.funcs[34]? = some Tryz.f34 := by kernel_rfl
  exact h
theorem f77_at : gz.P.funcs[77]? = some Tryz.f77 := by
  have h : Tryz.prog.funcs[77]? = some Tryz.f77 := by kernel_rfl
  exact h
theorem f41_at : gz.P.funcs[41]? = some Tryz.f41 := by
  have h : Tryz.prog.funcs[41]? = some Tryz.f41 := by kernel_rfl
  exact h
theorem f38_at : gz.P.funcs[38]? = some Tryz.f38 := by
  have h : Tryz.prog.funcs[38]? = some Tryz.f38 := by kernel_rfl
  exact h
structure Cur where
  b : List UInt8
  i : Int
  h : Int
def Cur.enc (c : Cur) : AVal := .agg [.lst false 1 (c.b.map byteA), .lit (.int .i64 c.i), .lit (.int .i64 c.h)]
theorem Cur.enc_eq {c : Cur} : c.enc = .agg [.lst false 1 (c.b.map byteA), .lit (.int .i64 c.i), .lit (.int .i64 c.h)] := nr rfl
attribute [go_sem] Cur.enc_eq
theorem and_mask (a : Int) (m : Nat) (hm : m < 9223372036854775808) : 0 ≤ andI .i64 a (m : Int) ∧ andI .i64 a (m : Int) ≤ m := by
  unfold andI
  have h1 : (BitVec.ofInt IntKind.i64.bits a &&& BitVec.ofInt IntKind.i64.bits (m : Int)).toNat ≤ m := by
    rw [BitVec.toNat_and]
    refine Nat.le_trans Nat.and_le_right ?_
    rw [BitVec.toNat_ofInt]
    have : ((m : Int) % ((2 ^ IntKind.i64.bits : Nat) : Int)).toNat = m := by
      have hb : (2 ^ IntKind.i64.bits : Nat) = 18446744073709551616 := by decide
      rw [hb]
      omega
    rw [this]
    exact Nat.le_refl _
  rw [wrap64 (by omega) (by omega)]
  omega
theorem ok34 (l : List UInt8) : VCalls gz 34 [.lst false 1 (l.map byteA)] none (fun y _ => ∃ h, y = .ptr true (Cur.mk l 0 h).enc) := by
  refine VCalls.go (nt := 28) (keep := [0, 2, 3, 4, 11]) (muts := []) (mvs := []) [] f34_at rfl (by kernel_rfl) rfl (by kernel_rfl) rfl (fun i h => by cases h) rfl ?_
  intro hok
  simp only [go_sem] at hok
  simp only [Tryz.f34, Func.code, Option.getD_some]
  simp only [go_sem]
  intro hl
  refine vm_loopK (α := Nat × Int) (fun q => [(0, .lst false 1 (l.map byteA)), (3, .lit (.int .i64 q.2)), (4, .lit (.int .i64 q.1))]) (fun q => q.1 ≤ l.length) (fun q => l.length - q.1) (0, IntKind.i64.wrap (111029 + (l.length : Int))) ?_ (by simp) (by kernel_rfl) (fun _ => rfl) ?_
  · simp only [go_sem]
    trivial
  · rintro ⟨i, h⟩ hi hk
    simp only at hi
    simp only [go_sem]
    intro _
    first | refine branch_ndec (fun h4 => ?_) (fun h4 => ?_) | refine branch_dec (fun h4 => ?_) (fun h4 => ?_) | refine branch_nbool (fun h4 => ?_) (fun h4 => ?_) | refine branch_split (fun h4 => ?_) (fun h4 => ?_)
    · have hlt : i < l.length := by omega
      have h0 : (0 : Int) ≤ (i : Int) := by omega
      simp only [go_sem, h0, h4, hlt]
      have hw : IntKind.i64.wrap ((i : Int) + 1) = (i : Int) + 1 := wrap64 (by omega) (by omega)
      rw [hw]
      refine again_intro (i + 1, andI .i64 (IntKind.i64.wrap (IntKind.i64.wrap (IntKind.i64.wrap (h * 137) + IntKind.i64.wrap ((l.getD i default).toNat : Int)) + 11)) 1073741823) (by simp only; omega) (by simp only; omega) ?_
      simp only [go_sem]
      omega
    · simp only [go_sem]
      exact ⟨_, rfl⟩
theorem ok77 (c : Cur) (hc : 0 ≤ c.i) : VCalls gz 77 [.ptr true c.enc] (some 0) (fun y x' => ∃ n i h, y = .lit (.int .i64 n) ∧ 0 ≤ n ∧ n ≤ 255 ∧ 0 ≤ i ∧ x' = (Cur.mk c.b i h).enc) := by
  refine VCalls.go (nt := 58) (keep := [0, 2, 3, 34]) (muts := [0]) (mvs := []) [(2, .tree true (.take 0 (.take 1 (.take 2 (.take 3 (.take 4 (.take 5 (.take 6 (.take 7 (.take 8 (.take 9 (.take 10 (.take 11 (.all (.cons 12 .done .nil))))))))))))))), (3, .chain true [0, 1, 2, 3, 4, 5, 6, 7, 8, 9]), (4, .tree true (.take 0 (.take 1 (.take 2 (.take 3 (.take 4 (.take 5 (.take 6 (.take 7 (.take 8 (.take 9 (.take 10 (.all (.cons 11 (.take 12 (.take 13 (.all (.cons 14 .done .nil)))) .nil))))))))))))))] f77_at rfl (by kernel_rfl) rfl (by kernel_rfl) rfl (fun i h => by cases h; exact ⟨rfl, by simp⟩) rfl ?_
  intro hok
  simp only [go_sem] at hok
  simp only [Tryz.f77, Func.code, Option.getD_some]
  simp only [go_sem]
  intro hl
  first | refine branch_ndec (fun h1 => ?_) (fun h1 => ?_) | refine branch_dec (fun h1 => ?_) (fun h1 => ?_) | refine branch_nbool (fun h1 => ?_) (fun h1 => ?_) | refine branch_split (fun h1 => ?_) (fun h1 => ?_)
  · have h2 : c.i.toNat < c.b.length := by omega
    simp only [go_sem, hc, h1, h2]
    have h3 : c.i + 1 ≤ 9223372036854775807 := by omega
    have hw : IntKind.i64.wrap (c.i + 1) = c.i + 1 := wrap64 (by omega) (by omega)
    rw [hw]
    exact ⟨_, _, _, rfl, (and_mask _ 255 (by decide)).1, (and_mask _ 255 (by decide)).2, by omega, rfl, rfl⟩
  · simp only [go_sem]
    exact ⟨_, _, _, rfl, (and_mask _ 255 (by decide)).1, (and_mask _ 255 (by decide)).2, hc, rfl, rfl⟩
theorem ok41 (c : Cur) (hc : 0 ≤ c.i) (n : Int) : VCalls gz 41 [.ptr true c.enc, .lit (.int .i64 n)] (some 0) (fun y x' => ∃ k i h, y = .lit (.int .i64 k) ∧ 0 ≤ k ∧ (0 < n → k < n) ∧ (n ≤ 0 → k = 0) ∧ 0 ≤ i ∧ x' = (Cur.mk c.b i h).enc) := by
  refine VCalls.go (nt := 37) (keep := [0, 1, 4, 5, 6, 7, 8, 10, 12]) (muts := [0]) (mvs := []) [] f41_at rfl (by kernel_rfl) rfl (by kernel_rfl) rfl (fun i h => by cases h; exact ⟨rfl, by simp⟩) rfl ?_
  intro hok
  simp only [go_sem] at hok
  simp only [Tryz.f41, Func.code, Option.getD_some]
  simp only [go_sem]
  first | refine branch_ndec (fun h1 => ?_) (fun h1 => ?_) | refine branch_dec (fun h1 => ?_) (fun h1 => ?_) | refine branch_nbool (fun h1 => ?_) (fun h1 => ?_) | refine branch_split (fun h1 => ?_) (fun h1 => ?_)
  · simp only [go_sem]
    exact ⟨_, _, _, rfl, by omega, by omega, by omega, hc, rfl, rfl⟩
  · simp only [go_sem]
    first | refine branch_ndec (fun h2 => ?_) (fun h2 => ?_) | refine branch_dec (fun h2 => ?_) (fun h2 => ?_) | refine branch_nbool (fun h2 => ?_) (fun h2 => ?_) | refine branch_split (fun h2 => ?_) (fun h2 => ?_)
    · simp only [go_sem]
      refine call_mut 0 0 rfl rfl rfl (by simp only [go_sem]) ?_
      simp only [go_sem, List.set]
      refine callM.use ((ok77 c hc)) ?_
      rintro _ _ ⟨k1, i1, e1, rfl, p1, p2, p3, rfl⟩
      simp only [go_sem]
      have p4 := tmod_mod p1 (by omega : 0 < n)
      exact ⟨by omega, _, _, _, rfl, p4.1, fun _ => p4.2, by omega, p3, rfl, rfl⟩
    · simp only [go_sem]
      refine call_mut 0 0 rfl rfl rfl (by simp only [go_sem]) ?_
      simp only [go_sem, List.set]
      refine callM.use ((ok77 c hc)) ?_
      rintro _ _ ⟨k1, i1, e1, rfl, p1, p2, p3, rfl⟩
      simp only [go_sem]
      refine call_mut 0 0 rfl rfl rfl (by simp only [go_sem]) ?_
      simp only [go_sem, List.set]
      refine callM.use ((ok77 (Cur.mk c.b i1 e1) p3)) ?_
      rintro _ _ ⟨k2, i2, e2, rfl, q1, q2, q3, rfl⟩
      simp only [go_sem]
      refine call_mut 0 0 rfl rfl rfl (by simp only [go_sem]) ?_
      simp only [go_sem, List.set]
      refine callM.use ((ok77 (Cur.mk c.b i2 e2) q3)) ?_
      rintro _ _ ⟨k3, i3, e3, rfl, r1, r2, r3, rfl⟩
      simp only [go_sem]
      refine call_mut 0 0 rfl rfl rfl (by simp only [go_sem]) ?_
      simp only [go_sem, List.set]
      refine callM.use ((ok77 (Cur.mk c.b i3 e3) r3)) ?_
      rintro _ _ ⟨k4, i4, e4, rfl, s1, s2, s3, rfl⟩
      simp only [go_sem]
      simp (disch := omega) only [wrap64, wrapU64, wrapU32, wrapU8]
      have p4 := tmod_mod (by omega : 0 ≤ k1 * 16777216 + k2 * 65536 + k3 * 256 + k4) (by omega : 0 < n)
      exact ⟨by omega, _, _, _, rfl, p4.1, fun _ => p4.2, by omega, s3, rfl, rfl⟩
theorem ok38 (c : Cur) (hc : 0 ≤ c.i) (n : Int) : VCalls gz 38 [.ptr true c.enc, .lit (.int .i64 n)] (some 0) (fun y x' => ∃ k i h, y = .lit (.bool k) ∧ 0 ≤ i ∧ x' = (Cur.mk c.b i h).enc) := by
  refine VCalls.go (nt := 9) (keep := [0, 1, 4]) (muts := [0]) (mvs := []) [] f38_at rfl (by kernel_rfl) rfl (by kernel_rfl) rfl (fun i h => by cases h; exact ⟨rfl, by simp⟩) rfl ?_
  intro hok
  simp only [go_sem] at hok
  simp only [Tryz.f38, Func.code, Option.getD_some]
  simp only [go_sem]
  refine call_mut 0 0 rfl rfl rfl (by simp only [go_sem]) ?_
  simp only [go_sem, List.set]
  refine callM.use ((ok41 c hc n)) ?_
  rintro _ _ ⟨k1, i1, e1, rfl, p1, p2, p3, p4, rfl⟩
  simp only [go_sem]
  exact ⟨_, _, _, rfl, p4, rfl, rfl⟩
end Go.VS
set_option linter.unusedSimpArgs false
set_option linter.unusedVariables false
open Go.Proofs Go.RowKit
set_option maxRecDepth 20000
namespace Go.VS
theorem f17_at : gz.P.funcs[17]? = some Tryz.f17 := by
  have h : Tryz.prog.funcs[17]? = some Tryz.f17 := by kernel_rfl
  exact h
theorem f11_at : gz.P.funcs[11]? = some Tryz.f11 := by
  have h : Tryz.prog.funcs[11]? = some Tryz.f11 := by kernel_rfl
  exact h
theorem ok17 (xs ys : List Int) : VCalls gz 17 [.lst false 1 (xs.map intA), .lst false 1 (ys.map intA)] none (fun y _ => y = .lit (.bool (decide (xs = ys)))) := by
  refine VCalls.go (nt := 26) (keep := [0, 1, 4, 5, 10, 14, 25]) (muts := []) (mvs := []) [(6, .chain true [0, 1, 2, 3, 4, 5, 6, 7, 8])] f17_at rfl (by kernel_rfl) rfl (by kernel_rfl) rfl (fun i h => by cases h) rfl ?_
  intro hok
  simp only [go_sem] at hok
  simp only [Tryz.f17, Func.code, Option.getD_some]
  simp only [go_sem]
  intro hm hm2
  first | refine branch_ndec (fun h => ?_) (fun h => ?_) | refine branch_dec (fun h => ?_) (fun h => ?_) | refine branch_nbool (fun h => ?_) (fun h => ?_) | refine branch_split (fun h => ?_) (fun h => ?_)
  rotate_left
  · simp only [go_sem]
    have : ¬ xs = ys := fun e => h (by rw [e])
    simp only [this, decide_false]
  · have hll : xs.length = ys.length := by omega
    simp only [go_sem]
    refine vm_loopK (α := Nat) (fun i => [(0, .lst false 1 (xs.map intA)), (1, .lst false 1 (ys.map intA)), (4, .lit (.bool false)), (5, .lit (.int .i64 i))]) (fun i => i ≤ xs.length ∧ ∀ j, j < i → xs.getD j default = ys.getD j default) (fun i => xs.length - i) 0 ?_ ⟨by omega, fun j hj => by omega⟩ (by kernel_rfl) (fun _ => rfl) ?_
    · simp only [go_sem]
      try trivial
    · rintro i ⟨hi, he⟩ hk
      simp only [go_sem]
      intro _
      first | refine branch_ndec (fun h2 => ?_) (fun h2 => ?_) | refine branch_dec (fun h2 => ?_) (fun h2 => ?_) | refine branch_nbool (fun h2 => ?_) (fun h2 => ?_) | refine branch_split (fun h2 => ?_) (fun h2 => ?_)
      · have hlt : i < xs.length := by omega
        have hlt2 : i < ys.length := by omega
        have h0 : (0 : Int) ≤ (i : Int) := by omega
        have h3 : (i : Int) < (ys.length : Int) := by omega
        have hw3 : IntKind.i64.wrap ((i : Int) + 1) = ((i + 1 : Nat) : Int) := by rw [wrap64 (by omega) (by omega)]; omega
        simp only [go_sem, h0, hlt, h2, hlt2, h3]
        first | refine branch_ndec (fun h4 => ?_) (fun h4 => ?_) | refine branch_dec (fun h4 => ?_) (fun h4 => ?_) | refine branch_nbool (fun h4 => ?_) (fun h4 => ?_) | refine branch_split (fun h4 => ?_) (fun h4 => ?_)
        rotate_left
        · simp only [go_sem]
          have : ¬ xs = ys := fun e => h4 (by rw [e])
          simp only [this, decide_false]
        · simp only [go_sem, hw3]
          refine again_intro (i + 1) ⟨by omega, fun j hj => ?_⟩ (by omega) ?_
          · by_cases hji : j < i
            · exact he j hji
            · have : j = i := by omega
              subst this
              exact h4
          · simp only [go_sem]
            try trivial
      · simp only [go_sem]
        have : i = xs.length := by omega
        subst this
        have : xs = ys := ext_getD hll he
        simp only [this, decide_true]
theorem ok11 (d c : Bnk) : VCalls gz 11 [d.enc false, c.enc false] none (fun y _ => y = .lit (.bool (decide (d = c)))) := by
  refine VCalls.go (nt := 17) (keep := [0, 1, 2, 3, 4]) (muts := []) (mvs := []) [] f11_at rfl (by kernel_rfl) rfl (by kernel_rfl) rfl (fun i h => by cases h) rfl ?_
  intro hok
  simp only [go_sem] at hok
  simp only [Tryz.f11, Func.code, Option.getD_some]
  simp only [go_sem]
  refine call_lend ?_
  simp only [go_sem]
  refine callN.eq (ok17 d.money c.money) (by simp only [go_sem]) ?_
  simp only [go_sem]
  by_cases h1 : d.money = c.money
  · simp only [go_sem, eq_true h1]
    refine call_lend ?_
    simp only [go_sem]
    refine callN.eq (ok17 d.counts c.counts) (by simp only [go_sem]) ?_
    simp only [go_sem]
    by_cases h2 : d.counts = c.counts
    · have : d = c := by cases d; cases c; simp_all
      try simp only [go_sem, eq_true h2, eq_true this]
    · have : ¬ d = c := fun e => h2 (by rw [e])
      try simp only [go_sem, h2, this]
  · have : ¬ d = c := fun e => h1 (by rw [e])
    simp only [go_sem, h1, this]
end Go.VS
set_option linter.unusedSimpArgs false
set_option linter.unusedVariables false
open Go.Proofs Go.RowKit
set_option maxRecDepth 20000
namespace Go.VS
theorem f36_at : gz.P.funcs[36]? = some Tryz.f36 := by
  have h : Tryz.prog.funcs[36]? = some Tryz.f36 := by kernel_rfl
  exact h
theorem f43_at : gz.P.funcs[43]? = some Tryz.f43 := by
  have h : Tryz.prog.funcs[43]? = some Tryz.f43 := by kernel_rfl
  exact h
set_option maxHeartbeats 4000000 in
theorem ok36 (c : Cur) (hc : 0 ≤ c.i) : VCalls gz 36 [.ptr true c.enc] (some 0) (fun y x' => ∃ (m : Mv) (i h : Int), y = m.enc ∧ 0 ≤ i ∧ x' = (Cur.mk c.b i h).enc) := by
  refine VCalls.go (nt := 51) (keep := [0, 2, 3, 15, 17, 18, 26, 34, 42]) (muts := [0]) (mvs := []) [] f36_at rfl (by kernel_rfl) rfl (by kernel_rfl) rfl (fun i h => by cases h; exact ⟨rfl, by simp⟩) rfl ?_
  intro hok
  simp only [go_sem] at hok
  simp only [Tryz.f36, Func.code, Option.getD_some]
  simp only [go_sem]
  refine call_mut 0 0 rfl rfl rfl (by simp only [go_sem]) ?_
  simp only [go_sem, List.set]
  refine callM.use ((ok41 c hc 3)) ?_
  rintro _ _ ⟨k1, i1, e1, rfl, p1, p2, p3, p4, rfl⟩
  simp only [go_sem]
  refine call_mut 0 0 rfl rfl rfl (by simp only [go_sem]) ?_
  simp only [go_sem, List.set]
  refine callM.use ((ok41 (Cur.mk c.b i1 e1) p4 4)) ?_
  rintro _ _ ⟨k2, i2, e2, rfl, q1, q2, q3, q4, rfl⟩
  simp only [go_sem]
  refine call_mut 0 0 rfl rfl rfl (by simp only [go_sem]) ?_
  simp only [go_sem, List.set]
  refine callM.use ((ok41 (Cur.mk c.b i2 e2) q4 700)) ?_
  rintro _ _ ⟨k3, i3, e3, rfl, r1, r2, r3, r4, rfl⟩
  simp only [go_sem]
  refine call_mut 0 0 rfl rfl rfl (by simp only [go_sem]) ?_
  simp only [go_sem, List.set]
  refine callM.use ((ok41 (Cur.mk c.b i3 e3) r4 2)) ?_
  rintro _ _ ⟨k4, i4, e4, rfl, s1, s2, s3, s4, rfl⟩
  simp only [go_sem]
  refine call_mut 0 0 rfl rfl rfl (by simp only [go_sem]) ?_
  simp only [go_sem, List.set]
  refine callM.use ((ok38 (Cur.mk c.b i4 e4) s4 14)) ?_
  rintro _ _ ⟨b5, i5, e5, rfl, u1, rfl⟩
  simp only [go_sem]
  cases b5
  · simp only [go_sem]
    refine ⟨⟨_, _, _, _⟩, _, _, ⟨rfl, rfl, rfl, rfl⟩, u1, rfl, rfl⟩
  simp only [go_sem]
  refine call_mut 0 0 rfl rfl rfl (by simp only [go_sem]) ?_
  simp only [go_sem, List.set]
  refine callM.use ((ok41 (Cur.mk c.b i5 e5) u1 4)) ?_
  rintro _ _ ⟨k6, i6, e6, rfl, v1, v2, v3, v4, rfl⟩
  simp only [go_sem]
  by_cases g0 : k6 = 0
  · simp only [go_sem, eq_true g0]
    refine call_mut 0 0 rfl rfl rfl (by simp only [go_sem]) ?_
    simp only [go_sem, List.set]
    refine callM.use ((ok41 (Cur.mk c.b i6 e6) v4 3)) ?_
    rintro _ _ ⟨k7, i7, e7, rfl, w1, w2, w3, w4, rfl⟩
    simp only [go_sem]
    have hk : k7 = 0 ∨ k7 = 1 ∨ k7 = 2 := by omega
    rcases hk with rfl | rfl | rfl <;> {
      simp only [go_sem, List.getD_cons_zero, List.getD_cons_succ]
      exact ⟨by decide, ⟨_, _, _, _⟩, _, _, ⟨rfl, rfl, rfl, rfl⟩, w4, rfl, rfl⟩ }
  simp only [go_sem, g0]
  by_cases g1 : k6 = 1
  · simp only [go_sem, eq_true g1]
    refine call_mut 0 0 rfl rfl rfl (by simp only [go_sem]) ?_
    simp only [go_sem, List.set]
    refine callM.use ((ok41 (Cur.mk c.b i6 e6) v4 4)) ?_
    rintro _ _ ⟨k7, i7, e7, rfl, w1, w2, w3, w4, rfl⟩
    simp only [go_sem]
    have hk : k7 = 0 ∨ k7 = 1 ∨ k7 = 2 ∨ k7 = 3 := by omega
    rcases hk with rfl | rfl | rfl | rfl <;> {
      simp only [go_sem, List.getD_cons_zero, List.getD_cons_succ]
      exact ⟨by decide, ⟨_, _, _, _⟩, _, _, ⟨rfl, rfl, rfl, rfl⟩, w4, rfl, rfl⟩ }
  simp only [go_sem, g1]
  by_cases g2 : k6 = 2
  · simp only [go_sem, eq_true g2]
    refine call_mut 0 0 rfl rfl rfl (by simp only [go_sem]) ?_
    simp only [go_sem, List.set]
    refine callM.use ((ok41 (Cur.mk c.b i6 e6) v4 4)) ?_
    rintro _ _ ⟨k7, i7, e7, rfl, w1, w2, w3, w4, rfl⟩
    simp only [go_sem]
    have hk : k7 = 0 ∨ k7 = 1 ∨ k7 = 2 ∨ k7 = 3 := by omega
    rcases hk with rfl | rfl | rfl | rfl <;> {
      simp only [go_sem, List.getD_cons_zero, List.getD_cons_succ]
      exact ⟨by decide, ⟨_, _, _, _⟩, _, _, ⟨rfl, rfl, rfl, rfl⟩, w4, rfl, rfl⟩ }
  simp only [go_sem, g2]
  have g3 : k6 = 3 := by omega
  simp only [go_sem, eq_true g3]
  refine call_mut 0 0 rfl rfl rfl (by simp only [go_sem]) ?_
  simp only [go_sem, List.set]
  refine callM.use ((ok41 (Cur.mk c.b i6 e6) v4 3)) ?_
  rintro _ _ ⟨k7, i7, e7, rfl, w1, w2, w3, w4, rfl⟩
  simp only [go_sem]
  have hk : k7 = 0 ∨ k7 = 1 ∨ k7 = 2 := by omega
  rcases hk with rfl | rfl | rfl <;> {
    simp only [go_sem, List.getD_cons_zero, List.getD_cons_succ]
    exact ⟨by decide, ⟨_, _, _, _⟩, _, _, ⟨rfl, rfl, rfl, rfl⟩, w4, rfl, rfl⟩ }
end Go.VS
set_option linter.unusedSimpArgs false
set_option linter.unusedVariables false
open Go.Proofs Go.RowKit
set_option maxRecDepth 20000
namespace Go.VS
theorem f21_at : gz.P.funcs[21]? = some Tryz.f21 := by
  have h : Tryz.prog.funcs[21]? = some Tryz.f21 := by kernel_rfl
  exact h
theorem ok21 : VCalls gz 21 [] none (fun y _ => y = Bnk.enc true ⟨List.replicate 8 1000, List.replicate 8 0⟩) := by
  refine VCalls.go (nt := 15) (keep := [0, 1, 2, 6]) (muts := []) (mvs := []) [] f21_at rfl (by kernel_rfl) rfl (by kernel_rfl) rfl (fun i h => by cases h) rfl ?_
  intro hok
  simp only [go_sem] at hok
  simp only [Tryz.f21, Func.code, Option.getD_some]
  simp only [go_sem]
  refine vm_loopK (α := Nat) (fun i => [(0, .ptr true (Bnk.enc true ⟨[], []⟩)), (1, .ptr true (Bnk.enc true ⟨List.replicate i 1000, List.replicate 8 0⟩)), (2, .lit (.int .i64 i))]) (fun i => i ≤ 8) (fun i => 8 - i) 0 ?_ (by omega) (by kernel_rfl) (fun _ => rfl) ?_
  · simp only [go_sem]
    exact ⟨⟨rfl, by rw [List.map_replicate]; rfl⟩, rfl⟩
  · intro i hi hk
    simp only [go_sem]
    first | refine branch_ndec (fun h6 => ?_) (fun h6 => ?_) | refine branch_dec (fun h6 => ?_) (fun h6 => ?_) | refine branch_nbool (fun h6 => ?_) (fun h6 => ?_) | refine branch_split (fun h6 => ?_) (fun h6 => ?_)
    · have hw3 : IntKind.i64.wrap ((i : Int) + 1) = ((i + 1 : Nat) : Int) := by rw [wrap64 (by omega) (by omega)]; omega
      simp only [go_sem, hw3]
      refine ⟨by rw [List.length_replicate]; omega, ?_⟩
      refine again_intro (i + 1) (by omega) (by omega) ?_
      have e : List.map intA (List.replicate i (1000 : Int)) ++ [.lit (.int .i64 1000)] = List.map intA (List.replicate (i + 1) (1000 : Int)) := by
        rw [List.replicate_succ', List.map_append]
        rfl
      simp only [go_sem, e]
      try trivial
    · have : i = 8 := by omega
      subst this
      simp only [go_sem]
      try trivial
end Go.VS
set_option linter.unusedSimpArgs false
set_option linter.unusedVariables false
open Go.Proofs Go.RowKit
set_option maxRecDepth 20000
namespace Go.VS
theorem Mv.sh_size (m : Mv) : m.sh.size ≤ 100 := by
  unfold Mv.sh
  split
  · rename_i h
    obtain ⟨m1, m2, m3, m4⟩ := Mv.ok_iff.1 h
    have s1 := itoaB_size m.src (by omega)
    have s2 := itoaB_size m.dst (by omega)
    have s3 := itoaB_size m.sum (by omega)
    have s4 := itoaB_size m.cnt (by omega)
    have k1 : (⟨#[(32 : UInt8)]⟩ : ByteArray).size = 1 := rfl
    unfold Mv.shB
    simp only [ByteArray.size_append, k1]
    omega
  · decide
set_option maxHeartbeats 2000000 in
theorem ok43 (c : Cur) (hc : 0 ≤ c.i) (b : Bnk) : VCalls gz 43 [.ptr true c.enc, b.enc false] (some 0) (fun y x' => ∃ (t : ByteArray) (i h : Int), y = .lit (.string t) ∧ t.size ≤ 100 ∧ 0 ≤ i ∧ x' = (Cur.mk c.b i h).enc) := by
  refine VCalls.go (nt := 27) (keep := [0, 1, 3, 4, 5, 17]) (muts := [0]) (mvs := []) [] f43_at rfl (by kernel_rfl) rfl (by kernel_rfl) rfl (fun i h => by cases h; exact ⟨rfl, by simp⟩) rfl ?_
  intro hok
  simp only [go_sem] at hok
  simp only [Tryz.f43, Func.code, Option.getD_some]
  simp only [go_sem]
  refine call_mut 0 0 rfl rfl rfl (by simp only [go_sem]) ?_
  simp only [go_sem, List.set]
  refine callM.use ((ok41 c hc 3)) ?_
  rintro _ _ ⟨k1, i1, e1, rfl, p1, p2, p3, p4, rfl⟩
  simp only [go_sem]
  refine call_mut 0 0 rfl rfl rfl (by simp only [go_sem]) ?_
  simp only [go_sem, List.set]
  refine callM.use ((ok41 (Cur.mk c.b i1 e1) p4 4)) ?_
  rintro _ _ ⟨k2, i2, e2, rfl, q1, q2, q3, q4, rfl⟩
  simp only [go_sem]
  refine call_mut 0 0 rfl rfl rfl (by simp only [go_sem]) ?_
  simp only [go_sem, List.set]
  refine callM.use ((ok41 (Cur.mk c.b i2 e2) q4 400)) ?_
  rintro _ _ ⟨k3, i3, e3, rfl, r1, r2, r3, r4, rfl⟩
  simp only [go_sem]
  intro hm
  by_cases g : (b.counts.length : Int) = 8
  · have n1 : k1 < (b.counts.length : Int) := by omega
    have n2 : k1.toNat < b.counts.length := by omega
    simp only [go_sem, eq_true g, p1, n1, n2]
    refine call_lend ?_
    simp only [go_sem]
    refine callN.eq (ok42 ⟨k1, k2, IntKind.i64.wrap (1 + k3), b.counts.getD k1.toNat default⟩) (by simp only [go_sem]) ?_
    simp only [go_sem]
    exact ⟨_, _, _, rfl, Mv.sh_size _, r4, rfl, rfl⟩
  · simp only [go_sem, g]
    refine call_lend ?_
    simp only [go_sem]
    refine callN.eq (ok42 ⟨k1, k2, IntKind.i64.wrap (1 + k3), 0⟩) (by simp only [go_sem]) ?_
    simp only [go_sem]
    exact ⟨_, _, _, rfl, Mv.sh_size _, r4, rfl, rfl⟩
end Go.VS
