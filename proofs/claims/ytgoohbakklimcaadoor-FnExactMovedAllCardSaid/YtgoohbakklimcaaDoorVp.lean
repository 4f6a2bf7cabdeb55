/- VS: functions by the machine. -/
import Derived.Test.YtgoohbakklimcaaDoorVk
import Derived.Test.YtgoohbakklimcaaDoorVn
import Derived.Test.YtgoohbakklimcaaDoorVl
set_option linter.unusedSimpArgs false
set_option linter.unusedVariables false
open Go.Proofs Go.RowKit
set_option maxRecDepth 20000
namespace Go.VS
theorem f38_at : gz.P.funcs[38]? = some Tryd.f38 := by
  have h : Tryd.prog.funcs[38]? = some Tryd.f38 := by kernel_rfl
  exact h
theorem f34_at : gz.P.funcs[34]? = some Tryd.f34 := by
  have h : Tryd.prog.funcs[34]? = some Tryd.f34 := by kernel_rfl
  exact h
theorem modify_intE {i : Nat} {xs : List Int} {v : Int} : (xs.map intA).modify i (putF [] (.lit (.int .i64 v))) = (xs.set i v).map intA := modify_enc (f := intA) rfl
theorem tkl {xs : List Int} {n : Nat} (h : xs.length = n) : List.take n xs = xs := by
  rw [← h]
  exact List.take_length
attribute [go_sem] modify_intE List.length_set
set_option maxHeartbeats 2000000 in
theorem ok38 (b : Bnk) (m : Mv) (hb : b.ok = true) (hm : m.ok = true) :
    VMut gz 38 [b.enc true, m.enc] 0 (fun y x' => y = .lit (.int .i64 (b.mv m).2) ∧ x' = (b.mv m).1.enc true) := by
  obtain ⟨⟨h1, h2⟩, ⟨h3, h4⟩, h5⟩ := Bnk.ok_iff.1 hb
  obtain ⟨m1, m2, m3, m4⟩ := Mv.ok_iff.1 hm
  have q1 : (0 : Int) ≤ m.src := m1.1
  have q2 : m.src < (b.counts.length : Int) := by omega
  have q3 : m.src.toNat < b.counts.length := by omega
  have q4 : m.src < (b.money.length : Int) := by omega
  have q5 : m.src.toNat < b.money.length := by omega
  have q6 : (0 : Int) ≤ m.dst := m2.1
  have q7 : m.dst < (b.money.length : Int) := by omega
  have q8 : m.dst.toNat < b.money.length := by omega
  refine VMut.go (nt := 57) (keep := [0, 1, 2, 3, 4, 5, 9, 19]) (i := 0) (mvs := []) [(3, .tree true (.take 0 (.take 1 (.take 2 (.take 3 (.take 4 (.take 5 (.take 6 (.take 7 (.take 8 (.all (.cons 9 .done .nil)))))))))))), (5, .tree true (.take 0 (.take 1 (.take 2 (.take 3 (.take 4 (.take 5 (.take 6 (.take 7 (.take 8 (.all (.cons 9 .done .nil)))))))))))), (7, .tree false (.take 0 (.take 2 (.take 6 (.all (.cons 1 (.all (.cons 3 (.take 4 (.all (.cons 5 (.all (.cons 7 (.take 8 (.take 9 (.all (.cons 10 .done .nil)))) .nil)) (.cons 7 (.all (.cons 5 (.take 8 (.take 9 (.all (.cons 10 .done .nil)))) .nil)) .nil)))) (.cons 7 (.all (.cons 3 (.take 4 (.all (.cons 5 (.take 8 (.take 9 (.all (.cons 10 .done .nil)))) .nil))) .nil)) .nil))) (.cons 3 (.all (.cons 1 (.take 4 (.all (.cons 5 (.all (.cons 7 (.take 8 (.take 9 (.all (.cons 10 .done .nil)))) .nil)) (.cons 7 (.all (.cons 5 (.take 8 (.take 9 (.all (.cons 10 .done .nil)))) .nil)) .nil)))) (.cons 7 (.all (.cons 1 (.take 4 (.all (.cons 5 (.take 8 (.take 9 (.all (.cons 10 .done .nil)))) .nil))) .nil)) .nil))) (.cons 7 (.all (.cons 1 (.all (.cons 3 (.take 4 (.all (.cons 5 (.take 8 (.take 9 (.all (.cons 10 .done .nil)))) .nil))) .nil)) (.cons 3 (.all (.cons 1 (.take 4 (.all (.cons 5 (.take 8 (.take 9 (.all (.cons 10 .done .nil)))) .nil))) .nil)) .nil))) .nil)))))))), (8, .tree false (.take 0 (.take 2 (.take 6 (.all (.cons 1 (.all (.cons 3 (.take 4 (.all (.cons 5 (.all (.cons 7 (.take 8 (.take 9 (.all (.cons 10 .done .nil)))) .nil)) (.cons 7 (.all (.cons 5 (.take 8 (.take 9 (.all (.cons 10 .done .nil)))) .nil)) .nil)))) (.cons 7 (.all (.cons 3 (.take 4 (.all (.cons 5 (.take 8 (.take 9 (.all (.cons 10 .done .nil)))) .nil))) .nil)) .nil))) (.cons 3 (.all (.cons 1 (.take 4 (.all (.cons 5 (.all (.cons 7 (.take 8 (.take 9 (.all (.cons 10 .done .nil)))) .nil)) (.cons 7 (.all (.cons 5 (.take 8 (.take 9 (.all (.cons 10 .done .nil)))) .nil)) .nil)))) (.cons 7 (.all (.cons 1 (.take 4 (.all (.cons 5 (.take 8 (.take 9 (.all (.cons 10 .done .nil)))) .nil))) .nil)) .nil))) (.cons 7 (.all (.cons 1 (.all (.cons 3 (.take 4 (.all (.cons 5 (.take 8 (.take 9 (.all (.cons 10 .done .nil)))) .nil))) .nil)) (.cons 3 (.all (.cons 1 (.take 4 (.all (.cons 5 (.take 8 (.take 9 (.all (.cons 10 .done .nil)))) .nil))) .nil)) .nil))) .nil))))))))] f38_at rfl (by kernel_rfl) rfl (by kernel_rfl) rfl rfl rfl ?_
  intro hok
  simp only [go_sem] at hok
  simp only [Tryd.f38, Func.code, Option.getD_some]
  simp only [go_sem]
  refine call_lend ?_
  simp only [go_sem]
  refine callN.eq (ok28 m) (by simp only [go_sem]) ?_
  simp only [go_sem]
  simp only [go_sem, hm, q1, q2, q3]
  by_cases g1 : m.cnt = b.counts.getD m.src.toNat default
  rotate_left
  · have : b.mv m = (b, 2) := by rw [Bnk.mv, if_pos g1]
    simp only [go_sem, g1, this]
    try trivial
  simp only [go_sem, eq_true g1, hm, q1, q2, q3, q4, q5]
  by_cases g2 : b.money.getD m.src.toNat default < m.sum
  · have : b.mv m = (b, 3) := by rw [Bnk.mv, if_neg (not_not_intro g1), if_pos g2]
    simp only [go_sem, eq_true g2, this]
    try trivial
  have e : b.mv m = (b.put m, 0) := by rw [Bnk.mv, if_neg (not_not_intro g1), if_neg g2]
  rw [e]
  have z1 := h2 _ (getD_mem q5)
  have w1 : IntKind.i64.wrap (b.money.getD m.src.toNat default - m.sum) = b.money.getD m.src.toNat default - m.sum := wrap64 (by omega) (by omega)
  have z2 : 0 ≤ (b.money.set m.src.toNat (b.money.getD m.src.toNat default - m.sum)).getD m.dst.toNat default ∧ (b.money.set m.src.toNat (b.money.getD m.src.toNat default - m.sum)).getD m.dst.toNat default ≤ 1000000000 := by
    rcases set_mem (getD_mem (xs := b.money.set m.src.toNat (b.money.getD m.src.toNat default - m.sum)) (i := m.dst.toNat) (by rw [List.length_set]; exact q8)) with hx | hx
    · exact h2 _ hx
    · omega
  have w2 : IntKind.i64.wrap ((b.money.set m.src.toNat (b.money.getD m.src.toNat default - m.sum)).getD m.dst.toNat default + m.sum) = (b.money.set m.src.toNat (b.money.getD m.src.toNat default - m.sum)).getD m.dst.toNat default + m.sum := wrap64 (by omega) (by omega)
  have z3 := h4 _ (getD_mem q3)
  have w3 : IntKind.i64.wrap (b.counts.getD m.src.toNat default + 1) = b.counts.getD m.src.toNat default + 1 := wrap64 (by omega) (by omega)
  simp only [go_sem, eq_false g2, hm, q1, q2, q3, q4, q5, q6, q7, q8, w1, w2, w3]
  exact ⟨rfl, rfl⟩
set_option maxHeartbeats 4000000 in
theorem ok34 (b : Bnk) (m : Mv) (hb : b.ok = true) (hm : m.ok = true) :
    VCalls gz 34 [b.enc false, m.enc] none (fun y _ => y = .tup [(b.mv m).1.enc true, .lit (.int .i64 (b.mv m).2)]) := by
  obtain ⟨⟨h1, h2⟩, ⟨h3, h4⟩, h5⟩ := Bnk.ok_iff.1 hb
  obtain ⟨m1, m2, m3, m4⟩ := Mv.ok_iff.1 hm
  have q1 : (0 : Int) ≤ m.src := m1.1
  have q2 : m.src < (b.counts.length : Int) := by omega
  have q3 : m.src.toNat < b.counts.length := by omega
  have q4 : m.src < (b.money.length : Int) := by omega
  have q5 : m.src.toNat < b.money.length := by omega
  have q6 : (0 : Int) ≤ m.dst := m2.1
  have q7 : m.dst < (b.money.length : Int) := by omega
  have q8 : m.dst.toNat < b.money.length := by omega
  refine VCalls.go (nt := 81) (keep := [0, 1, 2, 3, 4, 5, 6, 14, 18, 29]) (muts := []) (mvs := []) [(4, .tree true (.take 0 (.take 1 (.take 2 (.take 3 (.take 4 (.take 5 (.take 6 (.take 7 (.take 8 (.all (.cons 9 .done .nil)))))))))))), (6, .tree true (.take 0 (.take 1 (.take 2 (.take 3 (.take 4 (.take 5 (.take 6 (.take 7 (.take 8 (.all (.cons 9 .done .nil)))))))))))), (8, .tree true (.take 0 (.take 1 (.take 2 (.take 3 (.take 4 (.take 5 (.take 6 (.take 7 (.take 8 (.take 9 (.take 10 (.take 11 (.take 12 (.take 13 (.last 14)))))))))))))))), (9, .tree true (.take 0 (.take 1 (.take 2 (.take 3 (.take 4 (.take 5 (.take 6 (.take 7 (.take 8 (.take 9 (.take 10 (.take 11 (.take 12 (.take 13 (.last 14)))))))))))))))), (10, .tree true (.take 0 (.take 1 (.take 2 (.take 3 (.take 4 (.take 5 (.take 6 (.take 7 (.take 8 (.take 9 (.take 10 (.take 11 (.last 12))))))))))))))] f34_at rfl (by kernel_rfl) rfl (by kernel_rfl) rfl (fun i h => by cases h) rfl ?_
  intro hok
  simp only [go_sem] at hok
  simp only [Tryd.f34, Func.code, Option.getD_some]
  simp only [go_sem]
  refine call_lend ?_
  simp only [go_sem]
  refine callN.eq (ok27 b) (by simp only [go_sem]) ?_
  simp only [go_sem]
  simp only [go_sem, hb]
  refine call_lend ?_
  simp only [go_sem]
  refine callN.eq (ok50 m) (by simp only [go_sem]) ?_
  simp only [go_sem]
  simp only [go_sem, hm]
  refine call_lend ?_
  simp only [go_sem]
  refine callN.eq (ok33 b (by omega) (by omega)) (by simp only [go_sem]) ?_
  simp only [go_sem]
  simp only [go_sem, hm, q1, q2, q3]
  by_cases g1 : m.cnt = b.counts.getD m.src.toNat default
  rotate_left
  · have : b.mv m = (b, 2) := by rw [Bnk.mv, if_pos g1]
    simp only [go_sem, g1, this]
    try trivial
  simp only [go_sem, eq_true g1, hm, q1, q2, q3, q4, q5]
  by_cases g2 : b.money.getD m.src.toNat default < m.sum
  · have : b.mv m = (b, 3) := by rw [Bnk.mv, if_neg (not_not_intro g1), if_pos g2]
    simp only [go_sem, eq_true g2, this]
    try trivial
  have e : b.mv m = (b.put m, 0) := by rw [Bnk.mv, if_neg (not_not_intro g1), if_neg g2]
  rw [e]
  have z1 := h2 _ (getD_mem q5)
  have w1 : IntKind.i64.wrap (b.money.getD m.src.toNat default - m.sum) = b.money.getD m.src.toNat default - m.sum := wrap64 (by omega) (by omega)
  have z2 : 0 ≤ (b.money.set m.src.toNat (b.money.getD m.src.toNat default - m.sum)).getD m.dst.toNat default ∧ (b.money.set m.src.toNat (b.money.getD m.src.toNat default - m.sum)).getD m.dst.toNat default ≤ 1000000000 := by
    rcases set_mem (getD_mem (xs := b.money.set m.src.toNat (b.money.getD m.src.toNat default - m.sum)) (i := m.dst.toNat) (by rw [List.length_set]; exact q8)) with hx | hx
    · exact h2 _ hx
    · omega
  have w2 : IntKind.i64.wrap ((b.money.set m.src.toNat (b.money.getD m.src.toNat default - m.sum)).getD m.dst.toNat default + m.sum) = (b.money.set m.src.toNat (b.money.getD m.src.toNat default - m.sum)).getD m.dst.toNat default + m.sum := wrap64 (by omega) (by omega)
  have z3 := h4 _ (getD_mem q3)
  have w3 : IntKind.i64.wrap (b.counts.getD m.src.toNat default + 1) = b.counts.getD m.src.toNat default + 1 := wrap64 (by omega) (by omega)
  simp only [go_sem, eq_false g2, hm, q1, q2, q3, q4, q5, q6, q7, q8, w1, w2, w3]
  rw [tkl (by simp only [List.length_set]), tkl (by simp only [List.length_set])]
  exact ⟨rfl, rfl⟩
end Go.VS

set_option linter.unusedSimpArgs false
set_option linter.unusedVariables false
open Go.Proofs Go.RowKit
set_option maxRecDepth 20000
namespace Go.VS
theorem f7_at : gz.P.funcs[7]? = some Tryd.f7 := by
  have h : Tryd.prog.funcs[7]? = some Tryd.f7 := by kernel_rfl
  exact h
theorem f10_at : gz.P.funcs[10]? = some Tryd.f10 := by
  have h : Tryd.prog.funcs[10]? = some Tryd.f10 := by kernel_rfl
  exact h
/-- the answer of a list of moves -/
noncomputable def Bnk.ans (b : Bnk) (l : List ByteArray) : Bnk × List Int := if b.ok = true then b.run l l.length else (⟨[], []⟩, [])
theorem rdA_none : rdA none = .tup [mv0.enc, .lit (.bool false)] := rfl
theorem rdA_some {m : Mv} : rdA (some m) = .tup [m.enc, .lit (.bool true)] := rfl
theorem Bnk.ok_len {b : Bnk} (h : b.ok = true) : b.money.length = 8 ∧ b.counts.length = 8 := ⟨(Bnk.ok_iff.1 h).1.1, (Bnk.ok_iff.1 h).2.1.1⟩
theorem Bnk.mv_len {b : Bnk} {m : Mv} : (b.mv m).1.money.length = b.money.length ∧ (b.mv m).1.counts.length = b.counts.length := by
  unfold Bnk.mv
  split
  · exact ⟨rfl, rfl⟩
  · split
    · exact ⟨rfl, rfl⟩
    · simp only [Bnk.put, List.length_set, and_self]
set_option maxHeartbeats 2000000 in
theorem ok10 (b : Bnk) (l : List ByteArray) (hb1 : b.money.length ≤ 1048576) (hb2 : b.counts.length ≤ 1048576) (hl : l.length ≤ 1048576) (hs : ∀ s ∈ l, s.size ≤ 4000000) : VCalls gz 10 [b.enc false, .lst false 1 (l.map strA)] none (fun y _ => y = .tup [(b.ans l).1.enc true, .lst true 1 ((b.ans l).2.map intA)]) := by
  refine VCalls.go (nt := 42) (keep := [0, 1, 2, 4, 5, 6, 7, 9, 10, 11, 12, 15, 20, 21, 22, 23, 31]) (muts := []) (mvs := []) [] f10_at rfl (by kernel_rfl) rfl (by kernel_rfl) rfl (fun i h => by cases h) rfl ?_
  intro hok
  simp only [go_sem] at hok
  simp only [Tryd.f10, Func.code, Option.getD_some]
  simp only [go_sem]
  refine call_lend ?_
  simp only [go_sem]
  refine callN.eq (ok36 b) (by simp only [go_sem]) ?_
  simp only [go_sem]
  cases h : b.ok
  · have : b.ans l = (⟨[], []⟩, []) := if_neg (by rw [h]; decide)
    simp only [go_sem, this]
    try trivial
  have ea : b.ans l = b.run l l.length := if_pos h
  simp only [go_sem]
  refine call_lend ?_
  simp only [go_sem]
  refine callN.eq (ok37 b hb1 hb2) (by simp only [go_sem]) ?_
  simp only [go_sem]
  intro hm
  refine vm_loopK (α := Nat) (fun i => [(2, .ptr true (b.enc false)), (4, .ptr true (Bnk.enc true ⟨[], []⟩)), (6, .ptr true ((b.run l i).1.enc true)), (7, .lst true 1 ((b.run l i).2.map intA)), (20, .lst false 1 (l.map strA)), (21, .lit (.int .i64 l.length)), (22, .lit (.int .i64 i))]) (fun i => i ≤ l.length) (fun i => l.length - i) 0 ?_ (by omega) (by kernel_rfl) (fun _ => rfl) ?_
  · simp only [go_sem, Bnk.run]
    try trivial
  · intro i hi hk
    have hlr := Bnk.run_len b l i
    have hro := (Bnk.run_ok h l i).1
    have hrl := Bnk.ok_len hro
    simp only [go_sem]
    first | refine branch_ndec (fun h6 => ?_) (fun h6 => ?_) | refine branch_dec (fun h6 => ?_) (fun h6 => ?_) | refine branch_nbool (fun h6 => ?_) (fun h6 => ?_) | refine branch_split (fun h6 => ?_) (fun h6 => ?_)
    · have hlt : i < l.length := by omega
      have h0 : (0 : Int) ≤ (i : Int) := by omega
      have hw3 : IntKind.i64.wrap ((i : Int) + 1) = ((i + 1 : Nat) : Int) := by rw [wrap64 (by omega) (by omega)]; omega
      simp only [go_sem, h0, hlt, h6]
      have hr := ok23 (l.getD i default) (hs _ (getD_mem hlt))
      cases g : rdM (l.getD i default) with
      | none =>
        have e : b.run l (i + 1) = ((b.run l i).1, (b.run l i).2 ++ [1]) := by simp only [Bnk.run, Bnk.ln, g]
        rw [g, rdA_none] at hr
        refine call_lend ?_
        simp only [go_sem]
        refine callN.eq (hr) (by simp only [go_sem]) ?_
        simp only [go_sem]
        refine ⟨by omega, ?_⟩
        rw [hw3]
        refine again_intro (i + 1) (by omega) (by omega) ?_
        simp only [go_sem, e]
        try trivial
      | some m =>
        have e : b.run l (i + 1) = (((b.run l i).1.mv m).1, (b.run l i).2 ++ [((b.run l i).1.mv m).2]) := by simp only [Bnk.run, Bnk.ln, g]
        have hml := Bnk.mv_len (b := (b.run l i).1) (m := m)
        rw [g, rdA_some] at hr
        refine call_lend ?_
        simp only [go_sem]
        refine callN.eq (hr) (by simp only [go_sem]) ?_
        simp only [go_sem]
        refine call_give 0 6 [.idx 0] rfl rfl rfl (by simp only [go_sem]; rfl) (by simp only [go_sem, List.getElem?_cons_zero, List.getElem?_cons_succ]) (by simp only [go_sem]) (by simp only [go_sem]) (by simp only [go_sem]) ?_
        simp only [go_sem, List.set]
        refine callW.eq (ok38 (b.run l i).1 m hro (rdM_ok g).1) ?_
        simp only [go_sem]
        refine ⟨hml, ⟨by omega, by omega⟩, ?_⟩
        rw [hw3]
        refine again_intro (i + 1) (by omega) (by omega) ?_
        simp only [go_sem, e]
        try trivial
    · have hie : i = l.length := by omega
      subst hie
      rw [ea]
      simp only [go_sem]
      try trivial
set_option maxHeartbeats 2000000 in
theorem ok7 (b : Bnk) (l : List ByteArray) (hb1 : b.money.length ≤ 1048576) (hb2 : b.counts.length ≤ 1048576) (hl : l.length ≤ 1048576) (hs : ∀ s ∈ l, s.size ≤ 4000000) : VCalls gz 7 [b.enc false, .lst false 1 (l.map strA)] none (fun y _ => y = .tup [(b.ans l).1.enc true, .lst true 1 ((b.ans l).2.map intA)]) := by
  refine VCalls.go (nt := 53) (keep := [0, 1, 2, 4, 5, 6, 7, 8, 9, 10, 11, 12, 16, 24, 36]) (muts := []) (mvs := [12]) [] f7_at rfl (by kernel_rfl) rfl (by kernel_rfl) rfl (fun i h => by cases h) rfl ?_
  intro hok
  simp only [go_sem] at hok
  simp only [Tryd.f7, Func.code, Option.getD_some]
  simp only [go_sem]
  refine call_lend ?_
  simp only [go_sem]
  refine callN.eq (ok27 b) (by simp only [go_sem]) ?_
  simp only [go_sem]
  cases h : b.ok
  · have : b.ans l = (⟨[], []⟩, []) := if_neg (by rw [h]; decide)
    simp only [go_sem, this]
    try trivial
  have ea : b.ans l = b.run l l.length := if_pos h
  simp only [go_sem]
  refine call_lend ?_
  simp only [go_sem]
  refine callN.eq (ok33 b hb1 hb2) (by simp only [go_sem]) ?_
  simp only [go_sem]
  refine vm_loopK (α := Nat) (fun i => [(1, .lst false 1 (l.map strA)), (2, .ptr true (b.enc false)), (4, .ptr true (Bnk.enc true ⟨[], []⟩)), (6, .lst true 1 ((b.run l i).2.map intA)), (7, .ptr true ((b.run l i).1.enc true)), (8, .lit (.int .i64 i))]) (fun i => i ≤ l.length) (fun i => l.length - i) 0 ?_ (by omega) (by kernel_rfl) (fun _ => rfl) ?_
  · simp only [go_sem, Bnk.run]
    try trivial
  · intro i hi hk
    have hlr := Bnk.run_len b l i
    have hro := (Bnk.run_ok h l i).1
    have hrl := Bnk.ok_len hro
    simp only [go_sem]
    intro hm
    first | refine branch_ndec (fun h6 => ?_) (fun h6 => ?_) | refine branch_dec (fun h6 => ?_) (fun h6 => ?_) | refine branch_nbool (fun h6 => ?_) (fun h6 => ?_) | refine branch_split (fun h6 => ?_) (fun h6 => ?_)
    · have hlt : i < l.length := by omega
      have h0 : (0 : Int) ≤ (i : Int) := by omega
      have hw3 : IntKind.i64.wrap ((i : Int) + 1) = ((i + 1 : Nat) : Int) := by rw [wrap64 (by omega) (by omega)]; omega
      simp only [go_sem, h0, hlt, h6]
      have hr := ok24 (l.getD i default) (hs _ (getD_mem hlt))
      cases g : rdM (l.getD i default) with
      | none =>
        have e : b.run l (i + 1) = ((b.run l i).1, (b.run l i).2 ++ [1]) := by simp only [Bnk.run, Bnk.ln, g]
        rw [g, rdA_none] at hr
        refine call_lend ?_
        simp only [go_sem]
        refine callN.eq (hr) (by simp only [go_sem]) ?_
        simp only [go_sem]
        refine ⟨by omega, ?_⟩
        rw [hw3]
        refine again_intro (i + 1) (by omega) (by omega) ?_
        simp only [go_sem, e]
        try trivial
      | some m =>
        have e : b.run l (i + 1) = (((b.run l i).1.mv m).1, (b.run l i).2 ++ [((b.run l i).1.mv m).2]) := by simp only [Bnk.run, Bnk.ln, g]
        rw [g, rdA_some] at hr
        refine call_lend ?_
        simp only [go_sem]
        refine callN.eq (hr) (by simp only [go_sem]) ?_
        simp only [go_sem]
        refine call_lend ?_
        simp only [go_sem]
        refine callN.eq (ok34 (b.run l i).1 m hro (rdM_ok g).1) (by simp only [go_sem]) ?_
        simp only [go_sem]
        refine ⟨by omega, ?_⟩
        rw [hw3]
        refine again_intro (i + 1) (by omega) (by omega) ?_
        simp only [go_sem, e]
        try trivial
    · have hie : i = l.length := by omega
      subst hie
      rw [ea]
      simp only [go_sem]
      try trivial
end Go.VS
