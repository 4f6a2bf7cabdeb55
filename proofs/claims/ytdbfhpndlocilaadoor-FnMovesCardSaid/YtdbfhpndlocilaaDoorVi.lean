/- VS: functions by the machine. -/
import Derived.Test.YtdbfhpndlocilaaDoorVh
import Derived.Test.YtdbfhpndlocilaaDoorVn
import Derived.Test.YtdbfhpndlocilaaDoorVf
set_option linter.unusedSimpArgs false
set_option linter.unusedVariables false
open Go.Proofs Go.RowKit
set_option maxRecDepth 20000
namespace Go.VS
theorem f40_at : gz.P.funcs[40]? = some Tryd.f40 := by
  have h : Tryd.prog.funcs[40]? = some Tryd.f40 := by kernel_rfl
  exact h
theorem f48_at : gz.P.funcs[48]? = some Tryd.f48 := by
  have h : Tryd.prog.funcs[48]? = some Tryd.f48 := by kernel_rfl
  exact h
theorem modify_intE {i : Nat} {xs : List Int} {v : Int} : (xs.map intA).modify i (putF [] (.lit (.int .i64 v))) = (xs.set i v).map intA := modify_enc (f := intA) rfl
theorem tkl {xs : List Int} {n : Nat} (h : xs.length = n) : List.take n xs = xs := by
  rw [← h]
  exact List.take_length
attribute [go_sem] modify_intE List.length_set
set_option maxHeartbeats 2000000 in
theorem ok40 (b : Bnk) (m : Mv) (hb : b.ok = true) (hm : m.ok = true) :
    VMut gz 40 [b.enc true, m.enc] 0 (fun y x' => y = .lit (.int .i64 (b.mv m).2) ∧ x' = (b.mv m).1.enc true) := by
  obtain ⟨⟨h1, h2⟩, ⟨h3, h4⟩, h5⟩ := Bnk.ok_iff.1 hb
  obtain ⟨m1, m2, m3, m4⟩ := Mv.ok_iff.1 hm
  have q1 : (0 : Int) ≤ m.src := m1.1
  have q2 : m.src < (b.counts.length : Int) := by omega
  have q3 : m.src.toNat < b.counts.length := by omega
  have q4 : m.src < (b.money.length : Int) := by omega
  have q5 : m.src.toNat < b.money.length := by omega
  have q6 : (0 : Int) ≤ m.dst := m2.1
  have q7 : m.dst < (b.money.length : Int) := by omega
  have q8 : m.dst.toNat < b.money.length := by omega
  refine VMut.go (nt := 57) (keep := [0, 1, 2, 3, 4, 5, 9, 19]) (i := 0) (mvs := []) [(3, .tree true (.take 0 (.take 1 (.take 2 (.take 3 (.take 4 (.take 5 (.take 6 (.take 7 (.take 8 (.all (.cons 9 .done .nil)))))))))))), (5, .tree true (.take 0 (.take 1 (.take 2 (.take 3 (.take 4 (.take 5 (.take 6 (.take 7 (.take 8 (.all (.cons 9 .done .nil)))))))))))), (7, .tree false (.take 0 (.take 2 (.take 6 (.all (.cons 1 (.all (.cons 3 (.take 4 (.all (.cons 5 (.all (.cons 7 (.take 8 (.take 9 (.all (.cons 10 .done .nil)))) .nil)) (.cons 7 (.all (.cons 5 (.take 8 (.take 9 (.all (.cons 10 .done .nil)))) .nil)) .nil)))) (.cons 7 (.all (.cons 3 (.take 4 (.all (.cons 5 (.take 8 (.take 9 (.all (.cons 10 .done .nil)))) .nil))) .nil)) .nil))) (.cons 3 (.all (.cons 1 (.take 4 (.all (.cons 5 (.all (.cons 7 (.take 8 (.take 9 (.all (.cons 10 .done .nil)))) .nil)) (.cons 7 (.all (.cons 5 (.take 8 (.take 9 (.all (.cons 10 .done .nil)))) .nil)) .nil)))) (.cons 7 (.all (.cons 1 (.take 4 (.all (.cons 5 (.take 8 (.take 9 (.all (.cons 10 .done .nil)))) .nil))) .nil)) .nil))) (.cons 7 (.all (.cons 1 (.all (.cons 3 (.take 4 (.all (.cons 5 (.take 8 (.take 9 (.all (.cons 10 .done .nil)))) .nil))) .nil)) (.cons 3 (.all (.cons 1 (.take 4 (.all (.cons 5 (.take 8 (.take 9 (.all (.cons 10 .done .nil)))) .nil))) .nil)) .nil))) .nil)))))))), (8, .tree false (.take 0 (.take 2 (.take 6 (.all (.cons 1 (.all (.cons 3 (.take 4 (.all (.cons 5 (.all (.cons 7 (.take 8 (.take 9 (.all (.cons 10 .done .nil)))) .nil)) (.cons 7 (.all (.cons 5 (.take 8 (.take 9 (.all (.cons 10 .done .nil)))) .nil)) .nil)))) (.cons 7 (.all (.cons 3 (.take 4 (.all (.cons 5 (.take 8 (.take 9 (.all (.cons 10 .done .nil)))) .nil))) .nil)) .nil))) (.cons 3 (.all (.cons 1 (.take 4 (.all (.cons 5 (.all (.cons 7 (.take 8 (.take 9 (.all (.cons 10 .done .nil)))) .nil)) (.cons 7 (.all (.cons 5 (.take 8 (.take 9 (.all (.cons 10 .done .nil)))) .nil)) .nil)))) (.cons 7 (.all (.cons 1 (.take 4 (.all (.cons 5 (.take 8 (.take 9 (.all (.cons 10 .done .nil)))) .nil))) .nil)) .nil))) (.cons 7 (.all (.cons 1 (.all (.cons 3 (.take 4 (.all (.cons 5 (.take 8 (.take 9 (.all (.cons 10 .done .nil)))) .nil))) .nil)) (.cons 3 (.all (.cons 1 (.take 4 (.all (.cons 5 (.take 8 (.take 9 (.all (.cons 10 .done .nil)))) .nil))) .nil)) .nil))) .nil))))))))] f40_at rfl (by kernel_rfl) rfl (by kernel_rfl) rfl rfl rfl ?_
  intro hok
  simp only [go_sem] at hok
  simp only [Tryd.f40, Func.code, Option.getD_some]
  simp only [go_sem]
  refine call_lend ?_
  simp only [go_sem]
  refine callN.eq (ok13 m) (by simp only [go_sem]) ?_
  simp only [go_sem]
  simp only [go_sem, hm, q1, q2, q3]
  by_cases g1 : m.cnt = b.counts.getD m.src.toNat default
  rotate_left
  · have : b.mv m = (b, 2) := by rw [Bnk.mv, if_pos g1]
    simp only [go_sem, g1, this]
    try trivial
  simp only [go_sem, eq_true g1, hm, q1, q2, q3, q4, q5]
  by_cases g2 : b.money.getD m.src.toNat default < m.sum
  · have : b.mv m = (b, 3) := by rw [Bnk.mv, if_neg (not_not_intro g1), if_pos g2]
    simp only [go_sem, eq_true g2, this]
    try trivial
  have e : b.mv m = (b.put m, 0) := by rw [Bnk.mv, if_neg (not_not_intro g1), if_neg g2]
  rw [e]
  have z1 := h2 _ (getD_mem q5)
  have w1 : IntKind.i64.wrap (b.money.getD m.src.toNat default - m.sum) = b.money.getD m.src.toNat default - m.sum := wrap64 (by omega) (by omega)
  have z2 : 0 ≤ (b.money.set m.src.toNat (b.money.getD m.src.toNat default - m.sum)).getD m.dst.toNat default ∧ (b.money.set m.src.toNat (b.money.getD m.src.toNat default - m.sum)).getD m.dst.toNat default ≤ 1000000000 := by
    rcases set_mem (getD_mem (xs := b.money.set m.src.toNat (b.money.getD m.src.toNat default - m.sum)) (i := m.dst.toNat) (by rw [List.length_set]; exact q8)) with hx | hx
    · exact h2 _ hx
    · omega
  have w2 : IntKind.i64.wrap ((b.money.set m.src.toNat (b.money.getD m.src.toNat default - m.sum)).getD m.dst.toNat default + m.sum) = (b.money.set m.src.toNat (b.money.getD m.src.toNat default - m.sum)).getD m.dst.toNat default + m.sum := wrap64 (by omega) (by omega)
  have z3 := h4 _ (getD_mem q3)
  have w3 : IntKind.i64.wrap (b.counts.getD m.src.toNat default + 1) = b.counts.getD m.src.toNat default + 1 := wrap64 (by omega) (by omega)
  simp only [go_sem, eq_false g2, hm, q1, q2, q3, q4, q5, q6, q7, q8, w1, w2, w3]
  exact ⟨rfl, rfl⟩
set_option maxHeartbeats 4000000 in
theorem ok48 (b : Bnk) (m : Mv) (hb : b.ok = true) (hm : m.ok = true) :
    VCalls gz 48 [b.enc false, m.enc] none (fun y _ => y = .tup [(b.mv m).1.enc true, .lit (.int .i64 (b.mv m).2)]) := by
  obtain ⟨⟨h1, h2⟩, ⟨h3, h4⟩, h5⟩ := Bnk.ok_iff.1 hb
  obtain ⟨m1, m2, m3, m4⟩ := Mv.ok_iff.1 hm
  have q1 : (0 : Int) ≤ m.src := m1.1
  have q2 : m.src < (b.counts.length : Int) := by omega
  have q3 : m.src.toNat < b.counts.length := by omega
  have q4 : m.src < (b.money.length : Int) := by omega
  have q5 : m.src.toNat < b.money.length := by omega
  have q6 : (0 : Int) ≤ m.dst := m2.1
  have q7 : m.dst < (b.money.length : Int) := by omega
  have q8 : m.dst.toNat < b.money.length := by omega
  refine VCalls.go (nt := 81) (keep := [0, 1, 2, 3, 4, 5, 6, 14, 18, 29]) (muts := []) (mvs := []) [(4, .tree true (.take 0 (.take 1 (.take 2 (.take 3 (.take 4 (.take 5 (.take 6 (.take 7 (.take 8 (.all (.cons 9 .done .nil)))))))))))), (6, .tree true (.take 0 (.take 1 (.take 2 (.take 3 (.take 4 (.take 5 (.take 6 (.take 7 (.take 8 (.all (.cons 9 .done .nil)))))))))))), (8, .tree true (.take 0 (.take 1 (.take 2 (.take 3 (.take 4 (.take 5 (.take 6 (.take 7 (.take 8 (.take 9 (.take 10 (.take 11 (.take 12 (.take 13 (.last 14)))))))))))))))), (9, .tree true (.take 0 (.take 1 (.take 2 (.take 3 (.take 4 (.take 5 (.take 6 (.take 7 (.take 8 (.take 9 (.take 10 (.take 11 (.take 12 (.take 13 (.last 14)))))))))))))))), (10, .tree true (.take 0 (.take 1 (.take 2 (.take 3 (.take 4 (.take 5 (.take 6 (.take 7 (.take 8 (.take 9 (.take 10 (.take 11 (.last 12))))))))))))))] f48_at rfl (by kernel_rfl) rfl (by kernel_rfl) rfl (fun i h => by cases h) rfl ?_
  intro hok
  simp only [go_sem] at hok
  simp only [Tryd.f48, Func.code, Option.getD_some]
  simp only [go_sem]
  refine call_lend ?_
  simp only [go_sem]
  refine callN.eq (ok12 b) (by simp only [go_sem]) ?_
  simp only [go_sem]
  simp only [go_sem, hb]
  refine call_lend ?_
  simp only [go_sem]
  refine callN.eq (ok28 m) (by simp only [go_sem]) ?_
  simp only [go_sem]
  simp only [go_sem, hm]
  refine call_lend ?_
  simp only [go_sem]
  refine callN.eq (ok47 b (by omega) (by omega)) (by simp only [go_sem]) ?_
  simp only [go_sem]
  simp only [go_sem, hm, q1, q2, q3]
  by_cases g1 : m.cnt = b.counts.getD m.src.toNat default
  rotate_left
  · have : b.mv m = (b, 2) := by rw [Bnk.mv, if_pos g1]
    simp only [go_sem, g1, this]
    try trivial
  simp only [go_sem, eq_true g1, hm, q1, q2, q3, q4, q5]
  by_cases g2 : b.money.getD m.src.toNat default < m.sum
  · have : b.mv m = (b, 3) := by rw [Bnk.mv, if_neg (not_not_intro g1), if_pos g2]
    simp only [go_sem, eq_true g2, this]
    try trivial
  have e : b.mv m = (b.put m, 0) := by rw [Bnk.mv, if_neg (not_not_intro g1), if_neg g2]
  rw [e]
  have z1 := h2 _ (getD_mem q5)
  have w1 : IntKind.i64.wrap (b.money.getD m.src.toNat default - m.sum) = b.money.getD m.src.toNat default - m.sum := wrap64 (by omega) (by omega)
  have z2 : 0 ≤ (b.money.set m.src.toNat (b.money.getD m.src.toNat default - m.sum)).getD m.dst.toNat default ∧ (b.money.set m.src.toNat (b.money.getD m.src.toNat default - m.sum)).getD m.dst.toNat default ≤ 1000000000 := by
    rcases set_mem (getD_mem (xs := b.money.set m.src.toNat (b.money.getD m.src.toNat default - m.sum)) (i := m.dst.toNat) (by rw [List.length_set]; exact q8)) with hx | hx
    · exact h2 _ hx
    · omega
  have w2 : IntKind.i64.wrap ((b.money.set m.src.toNat (b.money.getD m.src.toNat default - m.sum)).getD m.dst.toNat default + m.sum) = (b.money.set m.src.toNat (b.money.getD m.src.toNat default - m.sum)).getD m.dst.toNat default + m.sum := wrap64 (by omega) (by omega)
  have z3 := h4 _ (getD_mem q3)
  have w3 : IntKind.i64.wrap (b.counts.getD m.src.toNat default + 1) = b.counts.getD m.src.toNat default + 1 := wrap64 (by omega) (by omega)
  simp only [go_sem, eq_false g2, hm, q1, q2, q3, q4, q5, q6, q7, q8, w1, w2, w3]
  rw [tkl (by simp only [List.length_set]), tkl (by simp only [List.length_set])]
  exact ⟨rfl, rfl⟩
end Go.VS


set_option linter.unusedSimpArgs false
set_option linter.unusedVariables false
open Go.Proofs Go.RowKit
set_option maxRecDepth 20000
namespace Go.VS
theorem f33_at : gz.P.funcs[33]? = some Tryd.f33 := by
  have h : Tryd.prog.funcs[33]? = some Tryd.f33 := by kernel_rfl
  exact h
theorem f15_at : gz.P.funcs[15]? = some Tryd.f15 := by
  have h : Tryd.prog.funcs[15]? = some Tryd.f15 := by kernel_rfl
  exact h
/-- the answer of a list of moves -/
noncomputable def Bnk.ans (b : Bnk) (l : List ByteArray) : Bnk × List Int := if b.ok = true then b.run l l.length else (⟨[], []⟩, [])
theorem rdA_none : rdA none = .tup [mv0.enc, .lit (.bool false)] := rfl
theorem rdA_some {m : Mv} : rdA (some m) = .tup [m.enc, .lit (.bool true)] := rfl
theorem Bnk.ok_len {b : Bnk} (h : b.ok = true) : b.money.length = 8 ∧ b.counts.length = 8 := ⟨(Bnk.ok_iff.1 h).1.1, (Bnk.ok_iff.1 h).2.1.1⟩
theorem Bnk.mv_len {b : Bnk} {m : Mv} : (b.mv m).1.money.length = b.money.length ∧ (b.mv m).1.counts.length = b.counts.length := by
  unfold Bnk.mv
  split
  · exact ⟨rfl, rfl⟩
  · split
    · exact ⟨rfl, rfl⟩
    · simp only [Bnk.put, List.length_set, and_self]
set_option maxHeartbeats 2000000 in
theorem ok15 (b : Bnk) (l : List ByteArray) (hb1 : b.money.length ≤ 1048576) (hb2 : b.counts.length ≤ 1048576) (hl : l.length ≤ 1099511627776) (hs : ∀ s ∈ l, s.size ≤ 4000000) : VCalls gz 15 [b.enc false, .lst false 1 (l.map strA)] none (fun y _ => y = .tup [(b.ans l).1.enc true, .lst true 1 ((b.ans l).2.map intA)]) := by
  refine VCalls.go (nt := 42) (keep := [0, 1, 2, 4, 5, 6, 7, 9, 10, 11, 12, 15, 20, 21, 22, 23, 31]) (muts := []) (mvs := []) [] f15_at rfl (by kernel_rfl) rfl (by kernel_rfl) rfl (fun i h => by cases h) rfl ?_
  intro hok
  simp only [go_sem] at hok
  simp only [Tryd.f15, Func.code, Option.getD_some]
  simp only [go_sem]
  refine call_lend ?_
  simp only [go_sem]
  refine callN.eq (ok38 b) (by simp only [go_sem]) ?_
  simp only [go_sem]
  cases h : b.ok
  · have : b.ans l = (⟨[], []⟩, []) := if_neg (by rw [h]; decide)
    simp only [go_sem, this]
    try trivial
  have ea : b.ans l = b.run l l.length := if_pos h
  simp only [go_sem]
  refine call_lend ?_
  simp only [go_sem]
  refine callN.eq (ok39 b hb1 hb2) (by simp only [go_sem]) ?_
  simp only [go_sem]
  intro hm
  refine vm_loopK (α := Nat) (fun i => [(2, .ptr true (b.enc false)), (4, .ptr true (Bnk.enc true ⟨[], []⟩)), (6, .ptr true ((b.run l i).1.enc true)), (7, .lst true 1 ((b.run l i).2.map intA)), (20, .lst false 1 (l.map strA)), (21, .lit (.int .i64 l.length)), (22, .lit (.int .i64 i))]) (fun i => i ≤ l.length) (fun i => l.length - i) 0 ?_ (by omega) (by kernel_rfl) (fun _ => rfl) ?_
  · simp only [go_sem, Bnk.run]
    try trivial
  · intro i hi hk
    have hlr := Bnk.run_len b l i
    have hro := (Bnk.run_ok h l i).1
    have hrl := Bnk.ok_len hro
    simp only [go_sem]
    first | refine branch_ndec (fun h6 => ?_) (fun h6 => ?_) | refine branch_dec (fun h6 => ?_) (fun h6 => ?_) | refine branch_nbool (fun h6 => ?_) (fun h6 => ?_) | refine branch_split (fun h6 => ?_) (fun h6 => ?_)
    · have hlt : i < l.length := by omega
      have h0 : (0 : Int) ≤ (i : Int) := by omega
      have hw3 : IntKind.i64.wrap ((i : Int) + 1) = ((i + 1 : Nat) : Int) := by rw [wrap64 (by omega) (by omega)]; omega
      simp only [go_sem, h0, hlt, h6]
      have hr := ok8 (l.getD i default) (hs _ (getD_mem hlt))
      cases g : rdM (l.getD i default) with
      | none =>
        have e : b.run l (i + 1) = ((b.run l i).1, (b.run l i).2 ++ [1]) := by simp only [Bnk.run, Bnk.ln, g]
        rw [g, rdA_none] at hr
        refine call_lend ?_
        simp only [go_sem]
        refine callN.eq (hr) (by simp only [go_sem]) ?_
        simp only [go_sem]
        refine ⟨by omega, ?_⟩
        rw [hw3]
        refine again_intro (i + 1) (by omega) (by omega) ?_
        simp only [go_sem, e]
        try trivial
      | some m =>
        have e : b.run l (i + 1) = (((b.run l i).1.mv m).1, (b.run l i).2 ++ [((b.run l i).1.mv m).2]) := by simp only [Bnk.run, Bnk.ln, g]
        have hml := Bnk.mv_len (b := (b.run l i).1) (m := m)
        rw [g, rdA_some] at hr
        refine call_lend ?_
        simp only [go_sem]
        refine callN.eq (hr) (by simp only [go_sem]) ?_
        simp only [go_sem]
        refine call_give 0 6 [.idx 0] rfl rfl rfl (by simp only [go_sem]; rfl) (by simp only [go_sem, List.getElem?_cons_zero, List.getElem?_cons_succ]) (by simp only [go_sem]) (by simp only [go_sem]) (by simp only [go_sem]) ?_
        simp only [go_sem, List.set]
        refine callW.eq (ok40 (b.run l i).1 m hro (rdM_ok g).1) ?_
        simp only [go_sem]
        refine ⟨hml, ⟨by omega, by omega⟩, ?_⟩
        rw [hw3]
        refine again_intro (i + 1) (by omega) (by omega) ?_
        simp only [go_sem, e]
        try trivial
    · have hie : i = l.length := by omega
      subst hie
      rw [ea]
      simp only [go_sem]
      try trivial
set_option maxHeartbeats 2000000 in
theorem ok33 (b : Bnk) (l : List ByteArray) (hb1 : b.money.length ≤ 1048576) (hb2 : b.counts.length ≤ 1048576) (hl : l.length ≤ 1099511627776) (hs : ∀ s ∈ l, s.size ≤ 4000000) : VCalls gz 33 [b.enc false, .lst false 1 (l.map strA)] none (fun y _ => y = .tup [(b.ans l).1.enc true, .lst true 1 ((b.ans l).2.map intA)]) := by
  refine VCalls.go (nt := 53) (keep := [0, 1, 2, 4, 5, 6, 7, 8, 9, 10, 11, 12, 16, 24, 36]) (muts := []) (mvs := [12]) [] f33_at rfl (by kernel_rfl) rfl (by kernel_rfl) rfl (fun i h => by cases h) rfl ?_
  intro hok
  simp only [go_sem] at hok
  simp only [Tryd.f33, Func.code, Option.getD_some]
  simp only [go_sem]
  refine call_lend ?_
  simp only [go_sem]
  refine callN.eq (ok12 b) (by simp only [go_sem]) ?_
  simp only [go_sem]
  cases h : b.ok
  · have : b.ans l = (⟨[], []⟩, []) := if_neg (by rw [h]; decide)
    simp only [go_sem, this]
    try trivial
  have ea : b.ans l = b.run l l.length := if_pos h
  simp only [go_sem]
  refine call_lend ?_
  simp only [go_sem]
  refine callN.eq (ok47 b hb1 hb2) (by simp only [go_sem]) ?_
  simp only [go_sem]
  refine vm_loopK (α := Nat) (fun i => [(1, .lst false 1 (l.map strA)), (2, .ptr true (b.enc false)), (4, .ptr true (Bnk.enc true ⟨[], []⟩)), (6, .lst true 1 ((b.run l i).2.map intA)), (7, .ptr true ((b.run l i).1.enc true)), (8, .lit (.int .i64 i))]) (fun i => i ≤ l.length) (fun i => l.length - i) 0 ?_ (by omega) (by kernel_rfl) (fun _ => rfl) ?_
  · simp only [go_sem, Bnk.run]
    try trivial
  · intro i hi hk
    have hlr := Bnk.run_len b l i
    have hro := (Bnk.run_ok h l i).1
    have hrl := Bnk.ok_len hro
    simp only [go_sem]
    intro hm
    first | refine branch_ndec (fun h6 => ?_) (fun h6 => ?_) | refine branch_dec (fun h6 => ?_) (fun h6 => ?_) | refine branch_nbool (fun h6 => ?_) (fun h6 => ?_) | refine branch_split (fun h6 => ?_) (fun h6 => ?_)
    · have hlt : i < l.length := by omega
      have h0 : (0 : Int) ≤ (i : Int) := by omega
      have hw3 : IntKind.i64.wrap ((i : Int) + 1) = ((i + 1 : Nat) : Int) := by rw [wrap64 (by omega) (by omega)]; omega
      simp only [go_sem, h0, hlt, h6]
      have hr := ok9 (l.getD i default) (hs _ (getD_mem hlt))
      cases g : rdM (l.getD i default) with
      | none =>
        have e : b.run l (i + 1) = ((b.run l i).1, (b.run l i).2 ++ [1]) := by simp only [Bnk.run, Bnk.ln, g]
        rw [g, rdA_none] at hr
        refine call_lend ?_
        simp only [go_sem]
        refine callN.eq (hr) (by simp only [go_sem]) ?_
        simp only [go_sem]
        refine ⟨by omega, ?_⟩
        rw [hw3]
        refine again_intro (i + 1) (by omega) (by omega) ?_
        simp only [go_sem, e]
        try trivial
      | some m =>
        have e : b.run l (i + 1) = (((b.run l i).1.mv m).1, (b.run l i).2 ++ [((b.run l i).1.mv m).2]) := by simp only [Bnk.run, Bnk.ln, g]
        rw [g, rdA_some] at hr
        refine call_lend ?_
        simp only [go_sem]
        refine callN.eq (hr) (by simp only [go_sem]) ?_
        simp only [go_sem]
        refine call_lend ?_
        simp only [go_sem]
        refine callN.eq (ok48 (b.run l i).1 m hro (rdM_ok g).1) (by simp only [go_sem]) ?_
        simp only [go_sem]
        refine ⟨by omega, ?_⟩
        rw [hw3]
        refine again_intro (i + 1) (by omega) (by omega) ?_
        simp only [go_sem, e]
        try trivial
    · have hie : i = l.length := by omega
      subst hie
      rw [ea]
      simp only [go_sem]
      try trivial
end Go.VS


set_option linter.unusedSimpArgs false
set_option linter.unusedVariables false
open Go.Proofs
set_option maxRecDepth 20000
namespace Go.VS
/-- a device is right -/
def Dev.ok (d : Dev) : Bool := decide (1 ≤ (d.secs.length : Int) ∧ (d.secs.length : Int) ≤ 16) && decide ((d.late.length : Int) ≤ 30) && !(d.secs.any fun s => decide (400 < (s.size : Int))) && !(d.late.any fun p => !d.fits p.place p.text)
end Go.VS


set_option linter.unusedSimpArgs false
set_option linter.unusedVariables false
open Go.Proofs
set_option maxRecDepth 20000
namespace Go.VS

/-- as much as a machine holds -/
def Dev.small (d : Dev) : Prop := d.secs.length * 16 ≤ 140737488355328 ∧ d.late.length * 24 ≤ 140737488355328
end Go.VS


set_option linter.unusedSimpArgs false
set_option linter.unusedVariables false
open Go.Proofs
set_option maxRecDepth 20000
namespace Go.VS
theorem modify_strA {i : Nat} {xs : List ByteArray} {v : ByteArray} : (xs.map strA).modify i (putF [] (.lit (.string v))) = (xs.set i v).map strA := modify_map (f := strA)
attribute [go_sem] modify_strA
/-- a flag -/
def boolA (b : Bool) : AVal := .lit (.bool b)
theorem boolA_eq {b : Bool} : boolA b = .lit (.bool b) := nr rfl
attribute [go_sem] boolA_eq
def Dev.none : Dev := ⟨[], []⟩
/-- Lay -/
def Dev.lay (d : Dev) (a : Int) (t : ByteArray) : Dev × Bool := if d.ok = true then (if d.fits a t = true ∧ ¬ d.late.length = 30 then (⟨d.secs, d.late ++ [⟨a, t⟩]⟩, true) else (d, false)) else (Dev.none, false)
/-- what is kept of the first i patches -/
def settleN (k : Nat → Bool) (late : List Patch) (ss : List ByteArray) : Nat → List ByteArray
  | 0 => ss
  | i + 1 => if k i = true then (settleN k late ss i).set (late.getD i default).place.toNat (late.getD i default).text else settleN k late ss i
theorem settleN_length (k : Nat → Bool) (late : List Patch) (ss : List ByteArray) : ∀ i, (settleN k late ss i).length = ss.length
  | 0 => rfl
  | i + 1 => by
    simp only [settleN]
    split
    · rw [List.length_set, settleN_length k late ss i]
    · exact settleN_length k late ss i
/-- the device of whose late patches some are kept -/
def Dev.settled (d : Dev) (k : Nat → Bool) : Dev := ⟨settleN k d.late d.secs d.late.length, []⟩
theorem Dev.ok_places {d : Dev} (h : d.ok = true) : ∀ p ∈ d.late, 0 ≤ p.place ∧ p.place < d.secs.length := by
  intro p hp
  simp only [Dev.ok, Bool.and_eq_true, Bool.not_eq_true', List.any_eq_false] at h
  have := h.2 p hp
  simp only [Bool.not_eq_true', Bool.not_eq_false, Dev.fits, Bool.and_eq_true, decide_eq_true_eq] at this
  omega
/-- Barrier -/
def Dev.barrier (d : Dev) : Dev := if d.ok = true then d.settled fun _ => true else Dev.none
/-- Cut -/
def Dev.cut (d : Dev) (l : List Bool) : Dev := if d.ok = true then d.settled fun i => l.getD i false else Dev.none
end Go.VS


set_option linter.unusedSimpArgs false
set_option linter.unusedVariables false
open Go.Proofs
set_option maxRecDepth 20000
namespace Go.VS
end Go.VS


set_option linter.unusedSimpArgs false
set_option linter.unusedVariables false
open Go.Proofs
set_option maxRecDepth 20000
namespace Go.VS
theorem settleN_stop (k : Nat → Bool) (late : List Patch) (ss : List ByteArray) (i : Nat) : ∀ n, (∀ j, i ≤ j → j < i + n → k j = false) → settleN k late ss (i + n) = settleN k late ss i
  | 0, _ => rfl
  | n + 1, h => by
    show settleN k late ss (i + n + 1) = _
    simp only [settleN, h (i + n) (by omega) (by omega), Bool.false_eq_true, if_false]
    exact settleN_stop k late ss i n fun j h1 h2 => h j h1 (by omega)
theorem replicate_map {n : Nat} {b : Bool} : List.map boolA (List.replicate n b) = List.replicate n (boolA b) := List.map_replicate
/-- what lies there behind the first i patches -/
def liesN (late : List Patch) (a : Int) (s : ByteArray) : Nat → ByteArray
  | 0 => s
  | i + 1 => if (late.getD i default).place = a then (late.getD i default).text else liesN late a s i
def Dev.lies (d : Dev) (a : Int) : ByteArray := if d.ok = true ∧ 0 ≤ a ∧ a < d.secs.length then liesN d.late a (d.secs.getD a.toNat default) d.late.length else ByteArray.empty
end Go.VS


set_option linter.unusedSimpArgs false
set_option linter.unusedVariables false
open Go.Proofs
set_option maxRecDepth 20000
namespace Go.VS
theorem f4_at : gz.P.funcs[4]? = some Tryd.f4 := by
  have h : Tryd.prog.funcs[4]? = some Tryd.f4 := by kernel_rfl
  exact h
theorem ok4 (l : List UInt8) : VCalls gz 4 [.lst false 1 (l.map byteA)] none (fun y _ => y = .lit (.bool (decide (4096 < (l.length : Int))))) := by
  refine VCalls.go (nt := 6) (keep := [0, 2]) (muts := []) (mvs := []) [] f4_at rfl (by kernel_rfl) rfl (by kernel_rfl) rfl (fun i h => by cases h) rfl ?_
  intro hok
  simp only [go_sem] at hok
  simp only [Tryd.f4, Func.code, Option.getD_some]
  simp only [go_sem]
theorem Patch.same {p q : Patch} (h1 : p.place = q.place) (h2 : p.text = q.text) : p = q := by
  cases p
  cases q
  simp only at h1 h2
  rw [h1, h2]
def Dev.like (a b : Dev) : Bool := decide (a.secs = b.secs) && decide (a.late = b.late)
end Go.VS


set_option linter.unusedSimpArgs false
set_option linter.unusedVariables false
open Go.Proofs
set_option maxRecDepth 20000
namespace Go.VS
theorem f20_at : gz.P.funcs[20]? = some Tryd.f20 := by
  have h : Tryd.prog.funcs[20]? = some Tryd.f20 := by kernel_rfl
  exact h
theorem f46_at : gz.P.funcs[46]? = some Tryd.f46 := by
  have h : Tryd.prog.funcs[46]? = some Tryd.f46 := by kernel_rfl
  exact h
theorem f31_at : gz.P.funcs[31]? = some Tryd.f31 := by
  have h : Tryd.prog.funcs[31]? = some Tryd.f31 := by kernel_rfl
  exact h
theorem f22_at : gz.P.funcs[22]? = some Tryd.f22 := by
  have h : Tryd.prog.funcs[22]? = some Tryd.f22 := by kernel_rfl
  exact h
/-- a cursor over the bytes of a draw -/
structure Cur where
  b : List UInt8
  i : Int
  h : Int
def Cur.enc (c : Cur) : AVal := .agg [.lst false 1 (c.b.map byteA), .lit (.int .i64 c.i), .lit (.int .i64 c.h)]
theorem Cur.enc_eq {c : Cur} : c.enc = .agg [.lst false 1 (c.b.map byteA), .lit (.int .i64 c.i), .lit (.int .i64 c.h)] := nr rfl
attribute [go_sem] Cur.enc_eq
theorem and_mask (a : Int) (m : Nat) (hm : m < 9223372036854775808) : 0 ≤ andI .i64 a (m : Int) ∧ andI .i64 a (m : Int) ≤ m := by
  unfold andI
  have h1 : (BitVec.ofInt IntKind.i64.bits a &&& BitVec.ofInt IntKind.i64.bits (m : Int)).toNat ≤ m := by
    rw [BitVec.toNat_and]
    refine Nat.le_trans Nat.and_le_right ?_
    rw [BitVec.toNat_ofInt]
    have : ((m : Int) % ((2 ^ IntKind.i64.bits : Nat) : Int)).toNat = m := by
      have hb : (2 ^ IntKind.i64.bits : Nat) = 18446744073709551616 := by decide
      rw [hb]
      omega
    rw [this]
    exact Nat.le_refl _
  rw [wrap64 (by omega) (by omega)]
  omega
theorem ok20 (l : List UInt8) : VCalls gz 20 [.lst false 1 (l.map byteA)] none (fun y _ => ∃ h, y = .ptr true (Cur.mk l 0 h).enc) := by
  refine VCalls.go (nt := 28) (keep := [0, 2, 3, 4, 11]) (muts := []) (mvs := []) [] f20_at rfl (by kernel_rfl) rfl (by kernel_rfl) rfl (fun i h => by cases h) rfl ?_
  intro hok
  simp only [go_sem] at hok
  simp only [Tryd.f20, Func.code, Option.getD_some]
  simp only [go_sem]
  intro hl
  refine vm_loopK (α := Nat × Int) (fun q => [(0, .lst false 1 (l.map byteA)), (3, .lit (.int .i64 q.2)), (4, .lit (.int .i64 q.1))]) (fun q => q.1 ≤ l.length) (fun q => l.length - q.1) (0, IntKind.i64.wrap (111029 + (l.length : Int))) ?_ (by simp) (by kernel_rfl) (fun _ => rfl) ?_
  · simp only [go_sem]
    trivial
  · rintro ⟨i, h⟩ hi hk
    simp only at hi
    simp only [go_sem]
    intro _
    first | refine branch_ndec (fun h4 => ?_) (fun h4 => ?_) | refine branch_dec (fun h4 => ?_) (fun h4 => ?_) | refine branch_nbool (fun h4 => ?_) (fun h4 => ?_) | refine branch_split (fun h4 => ?_) (fun h4 => ?_)
    · have hlt : i < l.length := by omega
      have h0 : (0 : Int) ≤ (i : Int) := by omega
      simp only [go_sem, h0, h4, hlt]
      have hw : IntKind.i64.wrap ((i : Int) + 1) = (i : Int) + 1 := wrap64 (by omega) (by omega)
      rw [hw]
      refine again_intro (i + 1, andI .i64 (IntKind.i64.wrap (IntKind.i64.wrap (IntKind.i64.wrap (h * 137) + IntKind.i64.wrap ((l.getD i default).toNat : Int)) + 11)) 1073741823) (by simp only; omega) (by simp only; omega) ?_
      simp only [go_sem]
      omega
    · simp only [go_sem]
      exact ⟨_, rfl⟩
theorem ok46 (c : Cur) (hc : 0 ≤ c.i) : VCalls gz 46 [.ptr true c.enc] (some 0) (fun y x' => ∃ n i h, y = .lit (.int .i64 n) ∧ 0 ≤ n ∧ n ≤ 255 ∧ 0 ≤ i ∧ x' = (Cur.mk c.b i h).enc) := by
  refine VCalls.go (nt := 58) (keep := [0, 2, 3, 34]) (muts := [0]) (mvs := []) [(2, .tree true (.take 0 (.take 1 (.take 2 (.take 3 (.take 4 (.take 5 (.take 6 (.take 7 (.take 8 (.take 9 (.take 10 (.take 11 (.all (.cons 12 .done .nil))))))))))))))), (3, .chain true [0, 1, 2, 3, 4, 5, 6, 7, 8, 9]), (4, .tree true (.take 0 (.take 1 (.take 2 (.take 3 (.take 4 (.take 5 (.take 6 (.take 7 (.take 8 (.take 9 (.take 10 (.all (.cons 11 (.take 12 (.take 13 (.all (.cons 14 .done .nil)))) .nil))))))))))))))] f46_at rfl (by kernel_rfl) rfl (by kernel_rfl) rfl (fun i h => by cases h; exact ⟨rfl, by simp⟩) rfl ?_
  intro hok
  simp only [go_sem] at hok
  simp only [Tryd.f46, Func.code, Option.getD_some]
  simp only [go_sem]
  intro hl
  first | refine branch_ndec (fun h1 => ?_) (fun h1 => ?_) | refine branch_dec (fun h1 => ?_) (fun h1 => ?_) | refine branch_nbool (fun h1 => ?_) (fun h1 => ?_) | refine branch_split (fun h1 => ?_) (fun h1 => ?_)
  · have h2 : c.i.toNat < c.b.length := by omega
    simp only [go_sem, hc, h1, h2]
    have h3 : c.i + 1 ≤ 9223372036854775807 := by omega
    have hw : IntKind.i64.wrap (c.i + 1) = c.i + 1 := wrap64 (by omega) (by omega)
    rw [hw]
    exact ⟨_, _, _, rfl, (and_mask _ 255 (by decide)).1, (and_mask _ 255 (by decide)).2, by omega, rfl, rfl⟩
  · simp only [go_sem]
    exact ⟨_, _, _, rfl, (and_mask _ 255 (by decide)).1, (and_mask _ 255 (by decide)).2, hc, rfl, rfl⟩
theorem ok31 (c : Cur) (hc : 0 ≤ c.i) (n : Int) : VCalls gz 31 [.ptr true c.enc, .lit (.int .i64 n)] (some 0) (fun y x' => ∃ k i h, y = .lit (.int .i64 k) ∧ 0 ≤ k ∧ (0 < n → k < n) ∧ (n ≤ 0 → k = 0) ∧ 0 ≤ i ∧ x' = (Cur.mk c.b i h).enc) := by
  refine VCalls.go (nt := 37) (keep := [0, 1, 4, 5, 6, 7, 8, 10, 12]) (muts := [0]) (mvs := []) [] f31_at rfl (by kernel_rfl) rfl (by kernel_rfl) rfl (fun i h => by cases h; exact ⟨rfl, by simp⟩) rfl ?_
  intro hok
  simp only [go_sem] at hok
  simp only [Tryd.f31, Func.code, Option.getD_some]
  simp only [go_sem]
  first | refine branch_ndec (fun h1 => ?_) (fun h1 => ?_) | refine branch_dec (fun h1 => ?_) (fun h1 => ?_) | refine branch_nbool (fun h1 => ?_) (fun h1 => ?_) | refine branch_split (fun h1 => ?_) (fun h1 => ?_)
  · simp only [go_sem]
    exact ⟨_, _, _, rfl, by omega, by omega, by omega, hc, rfl, rfl⟩
  · simp only [go_sem]
    first | refine branch_ndec (fun h2 => ?_) (fun h2 => ?_) | refine branch_dec (fun h2 => ?_) (fun h2 => ?_) | refine branch_nbool (fun h2 => ?_) (fun h2 => ?_) | refine branch_split (fun h2 => ?_) (fun h2 => ?_)
    · simp only [go_sem]
      refine call_mut 0 0 rfl rfl rfl (by simp only [go_sem]) ?_
      simp only [go_sem, List.set]
      refine callM.use ((ok46 c hc)) ?_
      rintro _ _ ⟨k1, i1, e1, rfl, p1, p2, p3, rfl⟩
      simp only [go_sem]
      have p4 := tmod_mod p1 (by omega : 0 < n)
      exact ⟨by omega, _, _, _, rfl, p4.1, fun _ => p4.2, by omega, p3, rfl, rfl⟩
    · simp only [go_sem]
      refine call_mut 0 0 rfl rfl rfl (by simp only [go_sem]) ?_
      simp only [go_sem, List.set]
      refine callM.use ((ok46 c hc)) ?_
      rintro _ _ ⟨k1, i1, e1, rfl, p1, p2, p3, rfl⟩
      simp only [go_sem]
      refine call_mut 0 0 rfl rfl rfl (by simp only [go_sem]) ?_
      simp only [go_sem, List.set]
      refine callM.use ((ok46 (Cur.mk c.b i1 e1) p3)) ?_
      rintro _ _ ⟨k2, i2, e2, rfl, q1, q2, q3, rfl⟩
      simp only [go_sem]
      refine call_mut 0 0 rfl rfl rfl (by simp only [go_sem]) ?_
      simp only [go_sem, List.set]
      refine callM.use ((ok46 (Cur.mk c.b i2 e2) q3)) ?_
      rintro _ _ ⟨k3, i3, e3, rfl, r1, r2, r3, rfl⟩
      simp only [go_sem]
      refine call_mut 0 0 rfl rfl rfl (by simp only [go_sem]) ?_
      simp only [go_sem, List.set]
      refine callM.use ((ok46 (Cur.mk c.b i3 e3) r3)) ?_
      rintro _ _ ⟨k4, i4, e4, rfl, s1, s2, s3, rfl⟩
      simp only [go_sem]
      simp (disch := omega) only [wrap64, wrapU64, wrapU32, wrapU8]
      have p4 := tmod_mod (by omega : 0 ≤ k1 * 16777216 + k2 * 65536 + k3 * 256 + k4) (by omega : 0 < n)
      exact ⟨by omega, _, _, _, rfl, p4.1, fun _ => p4.2, by omega, s3, rfl, rfl⟩
theorem ok22 (c : Cur) (hc : 0 ≤ c.i) (n : Int) : VCalls gz 22 [.ptr true c.enc, .lit (.int .i64 n)] (some 0) (fun y x' => ∃ k i h, y = .lit (.bool k) ∧ 0 ≤ i ∧ x' = (Cur.mk c.b i h).enc) := by
  refine VCalls.go (nt := 9) (keep := [0, 1, 4]) (muts := [0]) (mvs := []) [] f22_at rfl (by kernel_rfl) rfl (by kernel_rfl) rfl (fun i h => by cases h; exact ⟨rfl, by simp⟩) rfl ?_
  intro hok
  simp only [go_sem] at hok
  simp only [Tryd.f22, Func.code, Option.getD_some]
  simp only [go_sem]
  refine call_mut 0 0 rfl rfl rfl (by simp only [go_sem]) ?_
  simp only [go_sem, List.set]
  refine callM.use ((ok31 c hc n)) ?_
  rintro _ _ ⟨k1, i1, e1, rfl, p1, p2, p3, p4, rfl⟩
  simp only [go_sem]
  exact ⟨_, _, _, rfl, p4, rfl, rfl⟩
end Go.VS


set_option linter.unusedSimpArgs false
set_option linter.unusedVariables false
open Go.Proofs Go.RowKit
set_option maxRecDepth 20000
namespace Go.VS
theorem f17_at : gz.P.funcs[17]? = some Tryd.f17 := by
  have h : Tryd.prog.funcs[17]? = some Tryd.f17 := by kernel_rfl
  exact h
theorem f16_at : gz.P.funcs[16]? = some Tryd.f16 := by
  have h : Tryd.prog.funcs[16]? = some Tryd.f16 := by kernel_rfl
  exact h
theorem f14_at : gz.P.funcs[14]? = some Tryd.f14 := by
  have h : Tryd.prog.funcs[14]? = some Tryd.f14 := by kernel_rfl
  exact h
theorem ok17 (xs ys : List Int) : VCalls gz 17 [.lst false 1 (xs.map intA), .lst false 1 (ys.map intA)] none (fun y _ => y = .lit (.bool (decide (xs = ys)))) := by
  refine VCalls.go (nt := 26) (keep := [0, 1, 4, 5, 10, 14, 25]) (muts := []) (mvs := []) [(6, .chain true [0, 1, 2, 3, 4, 5, 6, 7, 8])] f17_at rfl (by kernel_rfl) rfl (by kernel_rfl) rfl (fun i h => by cases h) rfl ?_
  intro hok
  simp only [go_sem] at hok
  simp only [Tryd.f17, Func.code, Option.getD_some]
  simp only [go_sem]
  intro hm hm2
  first | refine branch_ndec (fun h => ?_) (fun h => ?_) | refine branch_dec (fun h => ?_) (fun h => ?_) | refine branch_nbool (fun h => ?_) (fun h => ?_) | refine branch_split (fun h => ?_) (fun h => ?_)
  rotate_left
  · simp only [go_sem]
    have : ¬ xs = ys := fun e => h (by rw [e])
    simp only [this, decide_false]
  · have hll : xs.length = ys.length := by omega
    simp only [go_sem]
    refine vm_loopK (α := Nat) (fun i => [(0, .lst false 1 (xs.map intA)), (1, .lst false 1 (ys.map intA)), (4, .lit (.bool false)), (5, .lit (.int .i64 i))]) (fun i => i ≤ xs.length ∧ ∀ j, j < i → xs.getD j default = ys.getD j default) (fun i => xs.length - i) 0 ?_ ⟨by omega, fun j hj => by omega⟩ (by kernel_rfl) (fun _ => rfl) ?_
    · simp only [go_sem]
      try trivial
    · rintro i ⟨hi, he⟩ hk
      simp only [go_sem]
      intro _
      first | refine branch_ndec (fun h2 => ?_) (fun h2 => ?_) | refine branch_dec (fun h2 => ?_) (fun h2 => ?_) | refine branch_nbool (fun h2 => ?_) (fun h2 => ?_) | refine branch_split (fun h2 => ?_) (fun h2 => ?_)
      · have hlt : i < xs.length := by omega
        have hlt2 : i < ys.length := by omega
        have h0 : (0 : Int) ≤ (i : Int) := by omega
        have h3 : (i : Int) < (ys.length : Int) := by omega
        have hw3 : IntKind.i64.wrap ((i : Int) + 1) = ((i + 1 : Nat) : Int) := by rw [wrap64 (by omega) (by omega)]; omega
        simp only [go_sem, h0, hlt, h2, hlt2, h3]
        first | refine branch_ndec (fun h4 => ?_) (fun h4 => ?_) | refine branch_dec (fun h4 => ?_) (fun h4 => ?_) | refine branch_nbool (fun h4 => ?_) (fun h4 => ?_) | refine branch_split (fun h4 => ?_) (fun h4 => ?_)
        rotate_left
        · simp only [go_sem]
          have : ¬ xs = ys := fun e => h4 (by rw [e])
          simp only [this, decide_false]
        · simp only [go_sem, hw3]
          refine again_intro (i + 1) ⟨by omega, fun j hj => ?_⟩ (by omega) ?_
          · by_cases hji : j < i
            · exact he j hji
            · have : j = i := by omega
              subst this
              exact h4
          · simp only [go_sem]
            try trivial
      · simp only [go_sem]
        have : i = xs.length := by omega
        subst this
        have : xs = ys := ext_getD hll he
        simp only [this, decide_true]
theorem ok16 (d c : Bnk) : VCalls gz 16 [d.enc false, c.enc false] none (fun y _ => y = .lit (.bool (decide (d = c)))) := by
  refine VCalls.go (nt := 17) (keep := [0, 1, 2, 3, 4]) (muts := []) (mvs := []) [] f16_at rfl (by kernel_rfl) rfl (by kernel_rfl) rfl (fun i h => by cases h) rfl ?_
  intro hok
  simp only [go_sem] at hok
  simp only [Tryd.f16, Func.code, Option.getD_some]
  simp only [go_sem]
  refine call_lend ?_
  simp only [go_sem]
  refine callN.eq (ok17 d.money c.money) (by simp only [go_sem]) ?_
  simp only [go_sem]
  by_cases h1 : d.money = c.money
  · simp only [go_sem, eq_true h1]
    refine call_lend ?_
    simp only [go_sem]
    refine callN.eq (ok17 d.counts c.counts) (by simp only [go_sem]) ?_
    simp only [go_sem]
    by_cases h2 : d.counts = c.counts
    · have : d = c := by cases d; cases c; simp_all
      try simp only [go_sem, eq_true h2, eq_true this]
    · have : ¬ d = c := fun e => h2 (by rw [e])
      try simp only [go_sem, h2, this]
  · have : ¬ d = c := fun e => h1 (by rw [e])
    simp only [go_sem, h1, this]
theorem ok14 (l : List UInt8) (hl : l.length ≤ 4096) (n : Int) (hn : 0 < n) : VCalls gz 14 [.lst false 1 (l.map byteA), .lit (.int .i64 1), .lit (.int .i64 n)] none (fun y _ => ∃ k, y = .lit (.int .i64 k) ∧ 0 ≤ k ∧ k < n) := by
  refine VCalls.go (nt := 34) (keep := [0, 1, 2, 6, 7, 8, 17]) (muts := []) (mvs := []) [] f14_at rfl (by kernel_rfl) rfl (by kernel_rfl) rfl (fun i h => by cases h) rfl ?_
  intro hok
  simp only [go_sem] at hok
  simp only [Tryd.f14, Func.code, Option.getD_some]
  simp only [go_sem]
  intro hm
  refine vm_loopK (α := Nat × Int) (fun q => [(0, .lst false 1 (l.map byteA)), (1, .lit (.int .i64 1)), (2, .lit (.int .i64 n)), (7, .lit (.int .i64 q.2)), (8, .lit (.int .i64 q.1))]) (fun q => q.1 ≤ l.length ∧ 0 ≤ q.2 ∧ q.2 ≤ 1000003) (fun q => l.length - q.1) (0, l.length + 7919) ?_ ⟨by simp, by simp only; omega, by simp only; omega⟩ (by kernel_rfl) (fun _ => rfl) ?_
  · simp only [go_sem]
    have e1 : IntKind.i64.wrap 7919 = 7919 := wrap64 (by omega) (by omega)
    rw [e1, wrap64 (by omega) (by omega)]
    exact ⟨rfl, rfl⟩
  · rintro ⟨i, h⟩ ⟨hi, hh1, hh2⟩ hk
    simp only at hi hh1 hh2
    simp only [go_sem]
    intro _
    first | refine branch_ndec (fun h4 => ?_) (fun h4 => ?_) | refine branch_dec (fun h4 => ?_) (fun h4 => ?_) | refine branch_nbool (fun h4 => ?_) (fun h4 => ?_) | refine branch_split (fun h4 => ?_) (fun h4 => ?_)
    · have hlt : i < l.length := by omega
      have h0 : (0 : Int) ≤ (i : Int) := by omega
      have hw3 : IntKind.i64.wrap ((i : Int) + 1) = ((i + 1 : Nat) : Int) := by rw [wrap64 (by omega) (by omega)]; omega
      simp only [go_sem, h0, h4, hlt, hw3]
      have hb : ((l.getD i default).toNat : Int) < 256 := by have := UInt8.toNat_lt (l.getD i default); omega
      have w1 : IntKind.i64.wrap (h * 131) = h * 131 := wrap64 (by omega) (by omega)
      have w2 : IntKind.i64.wrap ((l.getD i default).toNat : Int) = (l.getD i default).toNat := wrap64 (by omega) (by omega)
      rw [w1, w2, wrap64 (n := h * 131 + ((l.getD i default).toNat : Int)) (by omega) (by omega), wrap64 (n := h * 131 + ((l.getD i default).toNat : Int) + 1) (by omega) (by omega)]
      have p4 := tmod_mod (by omega : 0 ≤ h * 131 + ((l.getD i default).toNat : Int) + 1) (by omega : (0 : Int) < 1000003)
      refine again_intro (i + 1, (h * 131 + ((l.getD i default).toNat : Int) + 1).tmod 1000003) ⟨by simp only; omega, p4.1, by have := p4.2; simp only; omega⟩ (by simp only; omega) ?_
      simp only [go_sem]
      try trivial
    · simp only [go_sem]
      exact ⟨by omega, _, rfl, tmod_mod hh1 hn⟩
end Go.VS


set_option linter.unusedSimpArgs false
set_option linter.unusedVariables false
open Go.Proofs Go.RowKit
set_option maxRecDepth 20000
namespace Go.VS
theorem f21_at : gz.P.funcs[21]? = some Tryd.f21 := by
  have h : Tryd.prog.funcs[21]? = some Tryd.f21 := by kernel_rfl
  exact h
theorem f32_at : gz.P.funcs[32]? = some Tryd.f32 := by
  have h : Tryd.prog.funcs[32]? = some Tryd.f32 := by kernel_rfl
  exact h
theorem f18_at : gz.P.funcs[18]? = some Tryd.f18 := by
  have h : Tryd.prog.funcs[18]? = some Tryd.f18 := by kernel_rfl
  exact h
theorem f5_at : gz.P.funcs[5]? = some Tryd.f5 := by
  have h : Tryd.prog.funcs[5]? = some Tryd.f5 := by kernel_rfl
  exact h
set_option maxHeartbeats 4000000 in
theorem ok21 (c : Cur) (hc : 0 ≤ c.i) : VCalls gz 21 [.ptr true c.enc] (some 0) (fun y x' => ∃ (m : Mv) (i h : Int), y = m.enc ∧ 0 ≤ i ∧ x' = (Cur.mk c.b i h).enc) := by
  refine VCalls.go (nt := 51) (keep := [0, 2, 3, 15, 17, 18, 26, 34, 42]) (muts := [0]) (mvs := []) [] f21_at rfl (by kernel_rfl) rfl (by kernel_rfl) rfl (fun i h => by cases h; exact ⟨rfl, by simp⟩) rfl ?_
  intro hok
  simp only [go_sem] at hok
  simp only [Tryd.f21, Func.code, Option.getD_some]
  simp only [go_sem]
  refine call_mut 0 0 rfl rfl rfl (by simp only [go_sem]) ?_
  simp only [go_sem, List.set]
  refine callM.use ((ok31 c hc 3)) ?_
  rintro _ _ ⟨k1, i1, e1, rfl, p1, p2, p3, p4, rfl⟩
  simp only [go_sem]
  refine call_mut 0 0 rfl rfl rfl (by simp only [go_sem]) ?_
  simp only [go_sem, List.set]
  refine callM.use ((ok31 (Cur.mk c.b i1 e1) p4 4)) ?_
  rintro _ _ ⟨k2, i2, e2, rfl, q1, q2, q3, q4, rfl⟩
  simp only [go_sem]
  refine call_mut 0 0 rfl rfl rfl (by simp only [go_sem]) ?_
  simp only [go_sem, List.set]
  refine callM.use ((ok31 (Cur.mk c.b i2 e2) q4 700)) ?_
  rintro _ _ ⟨k3, i3, e3, rfl, r1, r2, r3, r4, rfl⟩
  simp only [go_sem]
  refine call_mut 0 0 rfl rfl rfl (by simp only [go_sem]) ?_
  simp only [go_sem, List.set]
  refine callM.use ((ok31 (Cur.mk c.b i3 e3) r4 2)) ?_
  rintro _ _ ⟨k4, i4, e4, rfl, s1, s2, s3, s4, rfl⟩
  simp only [go_sem]
  refine call_mut 0 0 rfl rfl rfl (by simp only [go_sem]) ?_
  simp only [go_sem, List.set]
  refine callM.use ((ok22 (Cur.mk c.b i4 e4) s4 14)) ?_
  rintro _ _ ⟨b5, i5, e5, rfl, u1, rfl⟩
  simp only [go_sem]
  cases b5
  · simp only [go_sem]
    refine ⟨⟨_, _, _, _⟩, _, _, ⟨rfl, rfl, rfl, rfl⟩, u1, rfl, rfl⟩
  simp only [go_sem]
  refine call_mut 0 0 rfl rfl rfl (by simp only [go_sem]) ?_
  simp only [go_sem, List.set]
  refine callM.use ((ok31 (Cur.mk c.b i5 e5) u1 4)) ?_
  rintro _ _ ⟨k6, i6, e6, rfl, v1, v2, v3, v4, rfl⟩
  simp only [go_sem]
  by_cases g0 : k6 = 0
  · simp only [go_sem, eq_true g0]
    refine call_mut 0 0 rfl rfl rfl (by simp only [go_sem]) ?_
    simp only [go_sem, List.set]
    refine callM.use ((ok31 (Cur.mk c.b i6 e6) v4 3)) ?_
    rintro _ _ ⟨k7, i7, e7, rfl, w1, w2, w3, w4, rfl⟩
    simp only [go_sem]
    have hk : k7 = 0 ∨ k7 = 1 ∨ k7 = 2 := by omega
    rcases hk with rfl | rfl | rfl <;> {
      simp only [go_sem, List.getD_cons_zero, List.getD_cons_succ]
      exact ⟨by decide, ⟨_, _, _, _⟩, _, _, ⟨rfl, rfl, rfl, rfl⟩, w4, rfl, rfl⟩ }
  simp only [go_sem, g0]
  by_cases g1 : k6 = 1
  · simp only [go_sem, eq_true g1]
    refine call_mut 0 0 rfl rfl rfl (by simp only [go_sem]) ?_
    simp only [go_sem, List.set]
    refine callM.use ((ok31 (Cur.mk c.b i6 e6) v4 4)) ?_
    rintro _ _ ⟨k7, i7, e7, rfl, w1, w2, w3, w4, rfl⟩
    simp only [go_sem]
    have hk : k7 = 0 ∨ k7 = 1 ∨ k7 = 2 ∨ k7 = 3 := by omega
    rcases hk with rfl | rfl | rfl | rfl <;> {
      simp only [go_sem, List.getD_cons_zero, List.getD_cons_succ]
      exact ⟨by decide, ⟨_, _, _, _⟩, _, _, ⟨rfl, rfl, rfl, rfl⟩, w4, rfl, rfl⟩ }
  simp only [go_sem, g1]
  by_cases g2 : k6 = 2
  · simp only [go_sem, eq_true g2]
    refine call_mut 0 0 rfl rfl rfl (by simp only [go_sem]) ?_
    simp only [go_sem, List.set]
    refine callM.use ((ok31 (Cur.mk c.b i6 e6) v4 4)) ?_
    rintro _ _ ⟨k7, i7, e7, rfl, w1, w2, w3, w4, rfl⟩
    simp only [go_sem]
    have hk : k7 = 0 ∨ k7 = 1 ∨ k7 = 2 ∨ k7 = 3 := by omega
    rcases hk with rfl | rfl | rfl | rfl <;> {
      simp only [go_sem, List.getD_cons_zero, List.getD_cons_succ]
      exact ⟨by decide, ⟨_, _, _, _⟩, _, _, ⟨rfl, rfl, rfl, rfl⟩, w4, rfl, rfl⟩ }
  simp only [go_sem, g2]
  have g3 : k6 = 3 := by omega
  simp only [go_sem, eq_true g3]
  refine call_mut 0 0 rfl rfl rfl (by simp only [go_sem]) ?_
  simp only [go_sem, List.set]
  refine callM.use ((ok31 (Cur.mk c.b i6 e6) v4 3)) ?_
  rintro _ _ ⟨k7, i7, e7, rfl, w1, w2, w3, w4, rfl⟩
  simp only [go_sem]
  have hk : k7 = 0 ∨ k7 = 1 ∨ k7 = 2 := by omega
  rcases hk with rfl | rfl | rfl <;> {
    simp only [go_sem, List.getD_cons_zero, List.getD_cons_succ]
    exact ⟨by decide, ⟨_, _, _, _⟩, _, _, ⟨rfl, rfl, rfl, rfl⟩, w4, rfl, rfl⟩ }
end Go.VS


set_option linter.unusedSimpArgs false
set_option linter.unusedVariables false
open Go.Proofs Go.RowKit
set_option maxRecDepth 20000
namespace Go.VS
theorem f45_at : gz.P.funcs[45]? = some Tryd.f45 := by
  have h : Tryd.prog.funcs[45]? = some Tryd.f45 := by kernel_rfl
  exact h
theorem ok45 : VCalls gz 45 [] none (fun y _ => y = Bnk.enc true ⟨List.replicate 8 1000, List.replicate 8 0⟩) := by
  refine VCalls.go (nt := 15) (keep := [0, 1, 2, 6]) (muts := []) (mvs := []) [] f45_at rfl (by kernel_rfl) rfl (by kernel_rfl) rfl (fun i h => by cases h) rfl ?_
  intro hok
  simp only [go_sem] at hok
  simp only [Tryd.f45, Func.code, Option.getD_some]
  simp only [go_sem]
  refine vm_loopK (α := Nat) (fun i => [(0, .ptr true (Bnk.enc true ⟨[], []⟩)), (1, .ptr true (Bnk.enc true ⟨List.replicate i 1000, List.replicate 8 0⟩)), (2, .lit (.int .i64 i))]) (fun i => i ≤ 8) (fun i => 8 - i) 0 ?_ (by omega) (by kernel_rfl) (fun _ => rfl) ?_
  · simp only [go_sem]
    exact ⟨⟨rfl, by rw [List.map_replicate]; rfl⟩, rfl⟩
  · intro i hi hk
    simp only [go_sem]
    first | refine branch_ndec (fun h6 => ?_) (fun h6 => ?_) | refine branch_dec (fun h6 => ?_) (fun h6 => ?_) | refine branch_nbool (fun h6 => ?_) (fun h6 => ?_) | refine branch_split (fun h6 => ?_) (fun h6 => ?_)
    · have hw3 : IntKind.i64.wrap ((i : Int) + 1) = ((i + 1 : Nat) : Int) := by rw [wrap64 (by omega) (by omega)]; omega
      simp only [go_sem, hw3]
      refine ⟨by rw [List.length_replicate]; omega, ?_⟩
      refine again_intro (i + 1) (by omega) (by omega) ?_
      have e : List.map intA (List.replicate i (1000 : Int)) ++ [.lit (.int .i64 1000)] = List.map intA (List.replicate (i + 1) (1000 : Int)) := by
        rw [List.replicate_succ', List.map_append]
        rfl
      simp only [go_sem, e]
      try trivial
    · have : i = 8 := by omega
      subst this
      simp only [go_sem]
      try trivial
theorem getD_app_l {α : Type} [Inhabited α] {p q : List α} {i : Nat} (h : i < p.length) : (p ++ q).getD i default = p.getD i default := by
  simp [List.getD_eq_getElem?_getD, List.getElem?_append_left h]
theorem getD_app_r {α : Type} [Inhabited α] {p q : List α} {i : Nat} : (p ++ q).getD (p.length + i) default = q.getD i default := by
  simp [List.getD_eq_getElem?_getD, List.getElem?_append_right]
theorem Bnk.run_left (b : Bnk) (p q : List ByteArray) : ∀ i, i ≤ p.length → b.run (p ++ q) i = b.run p i
  | 0, _ => rfl
  | i + 1, h => by rw [Bnk.run, Bnk.run, Bnk.run_left b p q i (by omega), getD_app_l (by omega)]
theorem Bnk.run_app (b : Bnk) (p q : List ByteArray) : ∀ i, i ≤ q.length → b.run (p ++ q) (p.length + i) = (((b.run p p.length).1.run q i).1, (b.run p p.length).2 ++ ((b.run p p.length).1.run q i).2)
  | 0, _ => by rw [Nat.add_zero, Bnk.run_left b p q _ (Nat.le_refl _)]; simp [Bnk.run]
  | i + 1, h => by rw [← Nat.add_assoc, Bnk.run, Bnk.run_app b p q i (by omega), getD_app_r]; simp [Bnk.run]
theorem Bnk.ans_ok {b : Bnk} (h : b.ok = true) (l : List ByteArray) : (b.ans l).1.ok = true := by
  have : b.ans l = b.run l l.length := if_pos h
  rw [this]
  exact (Bnk.run_ok h l _).1
theorem Bnk.ans_app {b : Bnk} (h : b.ok = true) (p q : List ByteArray) : b.ans (p ++ q) = (((b.ans p).1.ans q).1, (b.ans p).2 ++ ((b.ans p).1.ans q).2) := by
  have h1 : b.ans (p ++ q) = b.run (p ++ q) (p ++ q).length := if_pos h
  have h2 : b.ans p = b.run p p.length := if_pos h
  have h3 : (b.ans p).1.ans q = (b.ans p).1.run q q.length := if_pos (Bnk.ans_ok h p)
  rw [h1, h3, h2, List.length_append, Bnk.run_app b p q _ (Nat.le_refl _)]
end Go.VS


set_option linter.unusedSimpArgs false
set_option linter.unusedVariables false
open Go.Proofs Go.RowKit
set_option maxRecDepth 20000
namespace Go.VS
theorem Mv.sh_size (m : Mv) : m.sh.size ≤ 100 := by
  unfold Mv.sh
  split
  · rename_i h
    obtain ⟨m1, m2, m3, m4⟩ := Mv.ok_iff.1 h
    have s1 := itoaB_size m.src (by omega)
    have s2 := itoaB_size m.dst (by omega)
    have s3 := itoaB_size m.sum (by omega)
    have s4 := itoaB_size m.cnt (by omega)
    have k1 : (⟨#[(32 : UInt8)]⟩ : ByteArray).size = 1 := rfl
    unfold Mv.shB
    simp only [ByteArray.size_append, k1]
    omega
  · decide
set_option maxHeartbeats 2000000 in
theorem ok32 (c : Cur) (hc : 0 ≤ c.i) (b : Bnk) : VCalls gz 32 [.ptr true c.enc, b.enc false] (some 0) (fun y x' => ∃ (t : ByteArray) (i h : Int), y = .lit (.string t) ∧ t.size ≤ 100 ∧ 0 ≤ i ∧ x' = (Cur.mk c.b i h).enc) := by
  refine VCalls.go (nt := 27) (keep := [0, 1, 3, 4, 5, 17]) (muts := [0]) (mvs := []) [] f32_at rfl (by kernel_rfl) rfl (by kernel_rfl) rfl (fun i h => by cases h; exact ⟨rfl, by simp⟩) rfl ?_
  intro hok
  simp only [go_sem] at hok
  simp only [Tryd.f32, Func.code, Option.getD_some]
  simp only [go_sem]
  refine call_mut 0 0 rfl rfl rfl (by simp only [go_sem]) ?_
  simp only [go_sem, List.set]
  refine callM.use ((ok31 c hc 3)) ?_
  rintro _ _ ⟨k1, i1, e1, rfl, p1, p2, p3, p4, rfl⟩
  simp only [go_sem]
  refine call_mut 0 0 rfl rfl rfl (by simp only [go_sem]) ?_
  simp only [go_sem, List.set]
  refine callM.use ((ok31 (Cur.mk c.b i1 e1) p4 4)) ?_
  rintro _ _ ⟨k2, i2, e2, rfl, q1, q2, q3, q4, rfl⟩
  simp only [go_sem]
  refine call_mut 0 0 rfl rfl rfl (by simp only [go_sem]) ?_
  simp only [go_sem, List.set]
  refine callM.use ((ok31 (Cur.mk c.b i2 e2) q4 400)) ?_
  rintro _ _ ⟨k3, i3, e3, rfl, r1, r2, r3, r4, rfl⟩
  simp only [go_sem]
  intro hm
  by_cases g : (b.counts.length : Int) = 8
  · have n1 : k1 < (b.counts.length : Int) := by omega
    have n2 : k1.toNat < b.counts.length := by omega
    simp only [go_sem, eq_true g, p1, n1, n2]
    refine call_lend ?_
    simp only [go_sem]
    refine callN.eq (ok10 ⟨k1, k2, IntKind.i64.wrap (1 + k3), b.counts.getD k1.toNat default⟩) (by simp only [go_sem]) ?_
    simp only [go_sem]
    exact ⟨_, _, _, rfl, Mv.sh_size _, r4, rfl, rfl⟩
  · simp only [go_sem, g]
    refine call_lend ?_
    simp only [go_sem]
    refine callN.eq (ok10 ⟨k1, k2, IntKind.i64.wrap (1 + k3), 0⟩) (by simp only [go_sem]) ?_
    simp only [go_sem]
    exact ⟨_, _, _, rfl, Mv.sh_size _, r4, rfl, rfl⟩
end Go.VS


set_option linter.unusedSimpArgs false
set_option linter.unusedVariables false
open Go.Proofs
set_option maxRecDepth 20000
namespace Go.VS
/-- what is left behind n -/
def szR (n : Nat) (left : Int) : Int := if (n : Int) ≤ left then left - n else -1
def szL {α : Type} (f : α → Nat) (xs : List α) : Nat := xs.length + (xs.map f).sum
def szN {α : Type} (f : α → Nat) (xs : List α) (i : Nat) : Nat := xs.length + ((xs.take i).map f).sum
theorem szN_zero {α : Type} (f : α → Nat) (xs : List α) : szN f xs 0 = xs.length := by simp [szN]
theorem szN_len {α : Type} (f : α → Nat) (xs : List α) : szN f xs xs.length = szL f xs := by simp [szN, szL]
theorem szN_succ {α : Type} [Inhabited α] (f : α → Nat) (xs : List α) {i : Nat} (h : i < xs.length) : szN f xs (i + 1) = szN f xs i + f (xs.getD i default) := by
  simp only [szN, take_succ_getD h, List.map_append, List.sum_append, List.map_cons, List.map_nil, List.sum_cons, List.sum_nil]
  omega
theorem szN_le {α : Type} (f : α → Nat) (xs : List α) (i : Nat) : szN f xs i ≤ szL f xs := by
  simp only [szN, szL]
  have : (xs.map f).sum = ((xs.take i).map f).sum + ((xs.drop i).map f).sum := by
    rw [← List.sum_append, ← List.map_append, List.take_append_drop]
  omega
theorem szR_lt {n : Nat} {left : Int} (h : left < n) : szR n left = -1 := if_neg (by omega)
theorem szR_le {n : Nat} {left : Int} (h : (n : Int) ≤ left) : szR n left = left - n := if_pos h
theorem szR_add {a b : Nat} {left : Int} (h : (a : Int) ≤ left) : szR b (left - a) = szR (a + b) left := by
  unfold szR
  split <;> split <;> omega
/-- the space that a law gives itself -/
def room (left : Int) : Prop := 0 ≤ left ∧ left ≤ 1048576
def Prf.sz (p : Prf) : Nat := p.bys.length + p.tags.length
def Blk.sz (b : Blk) : Nat := b.proof.sz + szL ByteArray.size b.moves
def Rpl.sz (r : Rpl) : Nat := r.high.sz + szL Blk.sz r.blocks + r.votes.length + r.news.length + r.done.length
end Go.VS


set_option linter.unusedSimpArgs false
set_option linter.unusedVariables false
open Go.Proofs
set_option maxRecDepth 20000
namespace Go.VS
end Go.VS


set_option linter.unusedSimpArgs false
set_option linter.unusedVariables false
open Go.Proofs
set_option maxRecDepth 20000
namespace Go.VS
end Go.VS


set_option linter.unusedSimpArgs false
set_option linter.unusedVariables false
open Go.Proofs
set_option maxRecDepth 20000
namespace Go.VS
theorem modify_strB {i : Nat} {xs : List ByteArray} {v : ByteArray} : (xs.map strA).modify i (putF [] (.lit (.string v))) = (xs.set i v).map strA := modify_enc (f := strA) rfl
attribute [go_sem] modify_strB
/-- the text of a mark -/
def mtB (k : Int) : ByteArray := if k ≤ 0 then ⟨#[109, 48]⟩ else ⟨#[109]⟩ ++ itoaB k
theorem mtB_size (k : Int) (h : -9223372036854775808 ≤ k ∧ k ≤ 9223372036854775807) : (mtB k).size ≤ 22 := by
  unfold mtB
  split
  · decide
  · rw [ByteArray.size_append]
    have := itoaB_size k h
    have : (⟨#[109]⟩ : ByteArray).size = 1 := rfl
    omega
/-- the marks of a list, one element after the other -/
def mkL {α : Type} (f : α → Int → α × Int) : List α → Int → List α × Int
  | [], k => ([], k)
  | x :: xs, k => ((f x k).1 :: (mkL f xs (f x k).2).1, (mkL f xs (f x k).2).2)
/-- the number behind the first i -/
def mkN {α : Type} (f : α → Int → α × Int) (xs : List α) (k : Int) (i : Nat) : Int := (mkL f (xs.take i) k).2
theorem mkL_length {α : Type} (f : α → Int → α × Int) : ∀ (xs : List α) (k : Int), (mkL f xs k).1.length = xs.length
  | [], k => rfl
  | x :: xs, k => by simp only [mkL, List.length_cons, mkL_length f xs]
theorem mkN_zero {α : Type} (f : α → Int → α × Int) (xs : List α) (k : Int) : mkN f xs k 0 = k := rfl
theorem mkN_all {α : Type} (f : α → Int → α × Int) (xs : List α) (k : Int) : mkN f xs k xs.length = (mkL f xs k).2 := by simp [mkN]
theorem mkN_succ {α : Type} [Inhabited α] (f : α → Int → α × Int) : ∀ (xs : List α) (k : Int) (i : Nat), i < xs.length → mkN f xs k (i + 1) = (f (xs.getD i default) (mkN f xs k i)).2 ∧ (mkL f xs k).1.getD i default = (f (xs.getD i default) (mkN f xs k i)).1
  | [], k, i, h => by simp at h
  | x :: xs, k, 0, h => by simp [mkN, mkL]
  | x :: xs, k, i + 1, h => by
    have := mkN_succ f xs (f x k).2 i (by simpa using h)
    simpa [mkN, mkL] using this
def tot {α : Type} (w : α → Nat) (xs : List α) : Nat := (xs.map w).sum
/-- each mark adds at most c -/
def mkC {α : Type} (f : α → Int → α × Int) (w : α → Nat) : Prop := ∀ x k, (f x k).2 = k + w x
theorem mkN_add {α : Type} (f : α → Int → α × Int) {w : α → Nat} (h : mkC f w) (xs : List α) (k : Int) (i : Nat) : mkN f xs k i = k + ((xs.take i).map w).sum := by
  unfold mkN
  generalize xs.take i = ys
  induction ys generalizing k with
  | nil => simp [mkL]
  | cons y ys ih =>
    simp only [mkL, ih, h y k, List.map_cons, List.sum_cons]
    omega
theorem mkN_rng {α : Type} (f : α → Int → α × Int) {w : α → Nat} (h : mkC f w) (xs : List α) (k : Int) (i : Nat) : k ≤ mkN f xs k i ∧ mkN f xs k i ≤ k + (tot w xs : Nat) := by
  unfold tot
  rw [mkN_add f h]
  have : (xs.map w).sum = ((xs.take i).map w).sum + ((xs.drop i).map w).sum := by
    rw [← List.sum_append, ← List.map_append, List.take_append_drop]
  omega
def strM (s : ByteArray) (k : Int) : ByteArray × Int := (mtB k, k + 1)
theorem strM_c : mkC strM (fun _ => 1) := fun x k => rfl
theorem modify_flds {α : Type} {f : α → AVal} {xs : List α} {i : Nat} {g : AVal → AVal} (h : α → α) (e : ∀ x, g (f x) = f (h x)) : (xs.map f).modify i g = (xs.modify i h).map f := by
  apply List.ext_getElem?
  intro j
  simp only [List.getElem?_modify, List.getElem?_map]
  cases xs[j]? with
  | none => rfl
  | some x => by_cases hj : i = j <;> simp [hj, e]
theorem modify_two {α : Type} {xs : List α} {i : Nat} {g h : α → α} : (xs.modify i g).modify i h = xs.modify i (fun x => h (g x)) := by
  apply List.ext_getElem?
  intro j
  simp only [List.getElem?_modify]
  cases xs[j]? with
  | none => rfl
  | some x => by_cases hj : i = j <;> simp [hj]
attribute [go_sem] modify_two List.length_modify
end Go.VS

