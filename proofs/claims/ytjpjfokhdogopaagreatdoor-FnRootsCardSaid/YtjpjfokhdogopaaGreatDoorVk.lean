/- VS: functions by the machine. -/
import Derived.Test.YtjpjfokhdogopaaGreatDoorVh
import Derived.Test.YtjpjfokhdogopaaGreatDoorVj
set_option linter.unusedSimpArgs false
set_option linter.unusedVariables false
open Go.Proofs
set_option maxRecDepth 20000
namespace Go.VS
/-- the first i of one list, the rest of another -/
def midL {α : Type} (xs ys : List α) (i : Nat) : List α := xs.take i ++ ys.drop i
theorem midL_zero {α : Type} (xs ys : List α) : midL xs ys 0 = ys := by simp [midL]
theorem midL_length {α : Type} {xs ys : List α} {i : Nat} (hi : i ≤ xs.length) (h : ys.length = xs.length) : (midL xs ys i).length = xs.length := by simp [midL]; omega
theorem midL_all {α : Type} (xs : List α) {ys : List α} (h : ys.length = xs.length) : midL xs ys xs.length = xs := by
  simp only [midL, List.take_length]
  rw [List.drop_eq_nil_of_le (by omega), List.append_nil]
theorem midL_get {α : Type} [Inhabited α] {xs ys : List α} {i : Nat} (hi : i < xs.length) (h : ys.length = xs.length) : (midL xs ys i).getD i default = ys.getD i default := by
  simp only [midL, List.getD]
  rw [List.getElem?_append_right (by rw [List.length_take]; omega), List.length_take, Nat.min_eq_left (Nat.le_of_lt hi), Nat.sub_self, List.getElem?_drop, Nat.add_zero]
theorem midL_mod {α : Type} [Inhabited α] {xs ys : List α} {i : Nat} (hi : i < xs.length) (h : ys.length = xs.length) {f : α → α} (hf : f (ys.getD i default) = xs.getD i default) : (midL xs ys i).modify i f = midL xs ys (i + 1) := by
  have hy : i < ys.length := by omega
  have e1 : ys.drop i = ys[i] :: ys.drop (i + 1) := List.drop_eq_getElem_cons hy
  have e2 : ys.getD i default = ys[i] := by simp [List.getD, hy]
  have e3 : xs.getD i default = xs[i] := by simp [List.getD, hi]
  rw [e2, e3] at hf
  have e4 : xs.take (i + 1) = xs.take i ++ [xs[i]] := List.take_succ_eq_append_getElem hi
  apply List.ext_getElem?
  intro j
  simp only [midL, e1, e4, List.getElem?_modify]
  by_cases hj : i = j
  · subst hj
    have hl : (xs.take i).length = i := by simp; omega
    rw [List.getElem?_append_right (by omega), hl, Nat.sub_self, List.append_assoc, List.getElem?_append_right (by omega), hl, Nat.sub_self]
    simp [hf, hy]
  · simp only [if_neg hj, Option.map_id']
    by_cases hlt : j < i
    · rw [List.getElem?_append_left (by simp; omega), List.append_assoc, List.getElem?_append_left (by simp; omega)]
      simp
    · rw [List.getElem?_append_right (by simp; omega), List.append_assoc, List.getElem?_append_right (by simp; omega)]
      have hl : (xs.take i).length = i := by simp; omega
      rw [hl]
      obtain ⟨k, rfl⟩ : ∃ k, j = i + (k + 1) := ⟨j - i - 1, by omega⟩
      rw [show i + (k + 1) - i = k + 1 by omega]
      simp [show i + (k + 1) = i + 1 + k by omega]
theorem modify_set {α : Type} {xs : List α} {i : Nat} {v : α} : xs.modify i (fun _ => v) = xs.set i v := by
  apply List.ext_getElem?
  intro j
  simp only [List.getElem?_modify, List.getElem?_set]
  by_cases hj : i = j
  · subst hj
    by_cases hl : i < xs.length
    · simp [hl]
    · simp [hl]
  · simp [hj]
theorem modify_enc {α : Type} {f : α → AVal} {xs : List α} {i : Nat} {v : α} {y : AVal} (h : y = f v) : (xs.map f).modify i (putF [] y) = (xs.set i v).map f := by
  subst h
  exact modify_map
theorem midL_set {α : Type} [Inhabited α] (xs ys : List α) {i : Nat} (hi : i < xs.length) (h : ys.length = xs.length) : (midL xs ys i).set i (xs.getD i default) = midL xs ys (i + 1) := by
  rw [← modify_set]
  exact midL_mod hi h rfl
theorem ext_getD {α : Type} [Inhabited α] {xs ys : List α} (h : xs.length = ys.length) (he : ∀ j, j < xs.length → xs.getD j default = ys.getD j default) : xs = ys := by
  apply List.ext_getElem h
  intro j h1 h2
  have := he j h1
  simpa [List.getD, h1, h2] using this
end Go.VS

set_option linter.unusedSimpArgs false
set_option linter.unusedVariables false
open Go.Proofs
set_option maxRecDepth 20000
namespace Go.VS
theorem f134_at : gz.P.funcs[134]? = some Tryz.f134 := by
  have h : Tryz.prog.funcs[134]? = some Tryz.f134 := by kernel_rfl
  exact h
theorem strOfA_nil : strOfA [] = some [] := nr rfl
attribute [go_sem] strOfA_nil
set_option maxHeartbeats 2000000 in
theorem ok134 (c : Cur) (hc : 0 ≤ c.i) (s g : ByteArray) (hs : s.size ≤ 4000000) (hg : 0 < g.size) (hg2 : g.size ≤ 1000) : VCalls gz 134 [.ptr true c.enc, .lit (.string s), .lit (.string g)] (some 0) (fun y x' => ∃ t i h, y = .lit (.string t) ∧ t.size ≤ s.size + 3 ∧ 0 ≤ i ∧ x' = (Cur.mk c.b i h).enc) := by
  refine VCalls.go (nt := 78) (keep := [0, 1, 2, 6, 7, 8, 9, 20, 28, 29, 40, 45, 57]) (muts := [0]) (mvs := [10]) [(12, .tree false (.take 1 (.take 2 (.take 5 (.take 6 (.take 7 (.all (.cons 0 (.all (.cons 3 (.all (.cons 4 (.all (.cons 8 (.all (.cons 9 (.all (.cons 10 .done .nil)) .nil)) .nil)) (.cons 8 (.all (.cons 4 (.all (.cons 9 (.all (.cons 10 .done .nil)) .nil)) .nil)) .nil))) (.cons 8 (.all (.cons 3 (.all (.cons 4 (.all (.cons 9 (.all (.cons 10 .done .nil)) .nil)) .nil)) .nil)) .nil))) (.cons 3 (.all (.cons 0 (.all (.cons 4 (.all (.cons 8 (.all (.cons 9 (.all (.cons 10 .done .nil)) .nil)) .nil)) (.cons 8 (.all (.cons 4 (.all (.cons 9 (.all (.cons 10 .done .nil)) .nil)) .nil)) .nil))) (.cons 8 (.all (.cons 0 (.all (.cons 4 (.all (.cons 9 (.all (.cons 10 .done .nil)) .nil)) .nil)) .nil)) .nil))) (.cons 8 (.all (.cons 0 (.all (.cons 3 (.all (.cons 4 (.all (.cons 9 (.all (.cons 10 .done .nil)) .nil)) .nil)) .nil)) (.cons 3 (.all (.cons 0 (.all (.cons 4 (.all (.cons 9 (.all (.cons 10 .done .nil)) .nil)) .nil)) .nil)) .nil))) .nil)))))))))), (14, .tree false (.take 1 (.take 2 (.take 5 (.take 6 (.take 7 (.take 8 (.take 13 (.take 14 (.all (.cons 0 (.all (.cons 3 (.all (.cons 4 (.all (.cons 9 (.take 10 (.all (.cons 11 (.all (.cons 12 (.all (.cons 15 (.all (.cons 16 (.all (.cons 17 .done .nil)) .nil)) .nil)) (.cons 15 (.all (.cons 12 (.all (.cons 16 (.all (.cons 17 .done .nil)) .nil)) .nil)) .nil))) (.cons 15 (.all (.cons 11 (.all (.cons 12 (.all (.cons 16 (.all (.cons 17 .done .nil)) .nil)) .nil)) .nil)) .nil)))) (.cons 15 (.all (.cons 9 (.take 10 (.all (.cons 11 (.all (.cons 12 (.all (.cons 16 (.all (.cons 17 .done .nil)) .nil)) .nil)) .nil))) .nil)) .nil))) (.cons 15 (.all (.cons 4 (.all (.cons 9 (.take 10 (.all (.cons 11 (.all (.cons 12 (.all (.cons 16 (.all (.cons 17 .done .nil)) .nil)) .nil)) .nil))) .nil)) .nil)) .nil))) (.cons 15 (.all (.cons 3 (.all (.cons 4 (.all (.cons 9 (.take 10 (.all (.cons 11 (.all (.cons 12 (.all (.cons 16 (.all (.cons 17 .done .nil)) .nil)) .nil)) .nil))) .nil)) .nil)) .nil)) .nil))) (.cons 3 (.all (.cons 0 (.all (.cons 4 (.all (.cons 9 (.take 10 (.all (.cons 11 (.all (.cons 12 (.all (.cons 15 (.all (.cons 16 (.all (.cons 17 .done .nil)) .nil)) .nil)) (.cons 15 (.all (.cons 12 (.all (.cons 16 (.all (.cons 17 .done .nil)) .nil)) .nil)) .nil))) (.cons 15 (.all (.cons 11 (.all (.cons 12 (.all (.cons 16 (.all (.cons 17 .done .nil)) .nil)) .nil)) .nil)) .nil)))) (.cons 15 (.all (.cons 9 (.take 10 (.all (.cons 11 (.all (.cons 12 (.all (.cons 16 (.all (.cons 17 .done .nil)) .nil)) .nil)) .nil))) .nil)) .nil))) (.cons 15 (.all (.cons 4 (.all (.cons 9 (.take 10 (.all (.cons 11 (.all (.cons 12 (.all (.cons 16 (.all (.cons 17 .done .nil)) .nil)) .nil)) .nil))) .nil)) .nil)) .nil))) (.cons 15 (.all (.cons 0 (.all (.cons 4 (.all (.cons 9 (.take 10 (.all (.cons 11 (.all (.cons 12 (.all (.cons 16 (.all (.cons 17 .done .nil)) .nil)) .nil)) .nil))) .nil)) .nil)) .nil)) .nil))) (.cons 15 (.all (.cons 0 (.all (.cons 3 (.all (.cons 4 (.all (.cons 9 (.take 10 (.all (.cons 11 (.all (.cons 12 (.all (.cons 16 (.all (.cons 17 .done .nil)) .nil)) .nil)) .nil))) .nil)) .nil)) .nil)) (.cons 3 (.all (.cons 0 (.all (.cons 4 (.all (.cons 9 (.take 10 (.all (.cons 11 (.all (.cons 12 (.all (.cons 16 (.all (.cons 17 .done .nil)) .nil)) .nil)) .nil))) .nil)) .nil)) .nil)) .nil))) .nil)))))))))))))] f134_at rfl (by kernel_rfl) rfl (by kernel_rfl) rfl (fun i h => by cases h; exact ⟨rfl, by simp⟩) rfl ?_
  intro hok
  simp only [go_sem, Nat.reduceAdd, Nat.reduceSub, Nat.reduceMul, Nat.reduceEqDiff, Nat.reduceBEq, Nat.reduceBNe, Nat.reduceLT, Nat.reduceLeDiff, Int.reduceNeg, Int.reduceAdd, Int.reduceSub, Int.reduceMul, Int.reduceEq, Int.reduceLT, Int.reduceLE, Int.reduceToNat, reduceIte, reduceCtorEq] at hok
  simp only [Tryz.f134, Func.code, Option.getD_some]
  simp only [go_sem, Nat.reduceAdd, Nat.reduceSub, Nat.reduceMul, Nat.reduceEqDiff, Nat.reduceBEq, Nat.reduceBNe, Nat.reduceLT, Nat.reduceLeDiff, Int.reduceNeg, Int.reduceAdd, Int.reduceSub, Int.reduceMul, Int.reduceEq, Int.reduceLT, Int.reduceLE, Int.reduceToNat, reduceIte, reduceCtorEq]
  refine call_mut 0 0 rfl rfl rfl (by simp only [go_sem, Nat.reduceAdd, Nat.reduceSub, Nat.reduceMul, Nat.reduceEqDiff, Nat.reduceBEq, Nat.reduceBNe, Nat.reduceLT, Nat.reduceLeDiff, Int.reduceNeg, Int.reduceAdd, Int.reduceSub, Int.reduceMul, Int.reduceEq, Int.reduceLT, Int.reduceLE, Int.reduceToNat, reduceIte, reduceCtorEq]) ?_
  simp only [go_sem, Nat.reduceAdd, Nat.reduceSub, Nat.reduceMul, Nat.reduceEqDiff, Nat.reduceBEq, Nat.reduceBNe, Nat.reduceLT, Nat.reduceLeDiff, Int.reduceNeg, Int.reduceAdd, Int.reduceSub, Int.reduceMul, Int.reduceEq, Int.reduceLT, Int.reduceLE, Int.reduceToNat, reduceIte, reduceCtorEq, List.set]
  refine callM.use ((ok127 c hc 3)) ?_
  rintro _ _ ⟨n, i1, e1, rfl, p1, p2, p3, p4, rfl⟩
  simp only [go_sem, Nat.reduceAdd, Nat.reduceSub, Nat.reduceMul, Nat.reduceEqDiff, Nat.reduceBEq, Nat.reduceBNe, Nat.reduceLT, Nat.reduceLeDiff, Int.reduceNeg, Int.reduceAdd, Int.reduceSub, Int.reduceMul, Int.reduceEq, Int.reduceLT, Int.reduceLE, Int.reduceToNat, reduceIte, reduceCtorEq]
  have p5 := p2 (by omega)
  refine vm_loopK (α := (Bool × List UInt8) × Int × Int × Int) (fun q => [(0, .ptr true (Cur.mk c.b q.2.2.1 q.2.2.2).enc), (2, .lit (.string g)), (7, .lst q.1.1 1 (q.1.2.map byteA)), (8, .lit (.int .i64 q.2.1))]) (fun q => (q.1.2.length : Int) + q.2.1 ≤ s.size + 2 ∧ 0 ≤ q.2.1 ∧ 0 ≤ q.2.2.1 ∧ (q.1.1 = false → q.1.2 = [])) (fun q => q.2.1.toNat) ((true, s.data.toList), n, i1, e1) ?_ ⟨by rw [← bsz]; simp only; omega, p1, p4, by simp⟩ (by kernel_rfl) (fun _ => rfl) ?_
  · simp only [go_sem, Nat.reduceAdd, Nat.reduceSub, Nat.reduceMul, Nat.reduceEqDiff, Nat.reduceBEq, Nat.reduceBNe, Nat.reduceLT, Nat.reduceLeDiff, Int.reduceNeg, Int.reduceAdd, Int.reduceSub, Int.reduceMul, Int.reduceEq, Int.reduceLT, Int.reduceLE, Int.reduceToNat, reduceIte, reduceCtorEq]
    try trivial
  · rintro ⟨⟨own, l⟩, n, i, e⟩ ⟨q1, q2, q3, q4⟩ _
    simp only at q1 q2 q3 q4
    simp only [go_sem, Nat.reduceAdd, Nat.reduceSub, Nat.reduceMul, Nat.reduceEqDiff, Nat.reduceBEq, Nat.reduceBNe, Nat.reduceLT, Nat.reduceLeDiff, Int.reduceNeg, Int.reduceAdd, Int.reduceSub, Int.reduceMul, Int.reduceEq, Int.reduceLT, Int.reduceLE, Int.reduceToNat, reduceIte, reduceCtorEq]
    cases own with
    | false =>
      have q5 := q4 rfl
      subst q5
      have hz : ¬ ((0 : Int) < ((0 : Nat) : Int)) := by omega
      first | refine gj_ndec (fun h => ?_) (fun h => ?_) | refine gj_dec (fun h => ?_) (fun h => ?_) | refine gj_nbool (fun h => ?_) (fun h => ?_) | refine gj_bool (fun h => ?_) (fun h => ?_)
      · simp only [go_sem, Nat.reduceAdd, Nat.reduceSub, Nat.reduceMul, Nat.reduceEqDiff, Nat.reduceBEq, Nat.reduceBNe, Nat.reduceLT, Nat.reduceLeDiff, Int.reduceNeg, Int.reduceAdd, Int.reduceSub, Int.reduceMul, Int.reduceEq, Int.reduceLT, Int.reduceLE, Int.reduceToNat, reduceIte, reduceCtorEq, h, hz]
        exact ⟨_, _, _, rfl, by rw [size_mk]; simp, q3, rfl, rfl⟩
      · simp only [go_sem, Nat.reduceAdd, Nat.reduceSub, Nat.reduceMul, Nat.reduceEqDiff, Nat.reduceBEq, Nat.reduceBNe, Nat.reduceLT, Nat.reduceLeDiff, Int.reduceNeg, Int.reduceAdd, Int.reduceSub, Int.reduceMul, Int.reduceEq, Int.reduceLT, Int.reduceLE, Int.reduceToNat, reduceIte, reduceCtorEq, h]
        exact ⟨_, _, _, rfl, by rw [size_mk]; simp, q3, rfl, rfl⟩
    | true =>
      first | refine gj_ndec (fun h => ?_) (fun h => ?_) | refine gj_dec (fun h => ?_) (fun h => ?_) | refine gj_nbool (fun h => ?_) (fun h => ?_) | refine gj_bool (fun h => ?_) (fun h => ?_)
      rotate_left
      · simp only [go_sem, Nat.reduceAdd, Nat.reduceSub, Nat.reduceMul, Nat.reduceEqDiff, Nat.reduceBEq, Nat.reduceBNe, Nat.reduceLT, Nat.reduceLeDiff, Int.reduceNeg, Int.reduceAdd, Int.reduceSub, Int.reduceMul, Int.reduceEq, Int.reduceLT, Int.reduceLE, Int.reduceToNat, reduceIte, reduceCtorEq, h]
        exact ⟨_, _, _, rfl, by rw [size_mk]; omega, q3, rfl, rfl⟩
      · have hw8 : IntKind.i64.wrap (n - 1) = n - 1 := wrap64 (by omega) (by omega)
        simp only [go_sem, Nat.reduceAdd, Nat.reduceSub, Nat.reduceMul, Nat.reduceEqDiff, Nat.reduceBEq, Nat.reduceBNe, Nat.reduceLT, Nat.reduceLeDiff, Int.reduceNeg, Int.reduceAdd, Int.reduceSub, Int.reduceMul, Int.reduceEq, Int.reduceLT, Int.reduceLE, Int.reduceToNat, reduceIte, reduceCtorEq, h]
        intro _
        first | refine branch_ndec (fun h2 => ?_) (fun h2 => ?_) | refine branch_dec (fun h2 => ?_) (fun h2 => ?_) | refine branch_nbool (fun h2 => ?_) (fun h2 => ?_) | refine branch_split (fun h2 => ?_) (fun h2 => ?_)
        rotate_left
        · simp only [go_sem, Nat.reduceAdd, Nat.reduceSub, Nat.reduceMul, Nat.reduceEqDiff, Nat.reduceBEq, Nat.reduceBNe, Nat.reduceLT, Nat.reduceLeDiff, Int.reduceNeg, Int.reduceAdd, Int.reduceSub, Int.reduceMul, Int.reduceEq, Int.reduceLT, Int.reduceLE, Int.reduceToNat, reduceIte, reduceCtorEq]
          exact ⟨_, _, _, rfl, by rw [size_mk]; omega, q3, rfl, rfl⟩
        · simp only [go_sem, Nat.reduceAdd, Nat.reduceSub, Nat.reduceMul, Nat.reduceEqDiff, Nat.reduceBEq, Nat.reduceBNe, Nat.reduceLT, Nat.reduceLeDiff, Int.reduceNeg, Int.reduceAdd, Int.reduceSub, Int.reduceMul, Int.reduceEq, Int.reduceLT, Int.reduceLE, Int.reduceToNat, reduceIte, reduceCtorEq]
          intro _
          refine call_mut 0 0 rfl rfl rfl (by simp only [go_sem, Nat.reduceAdd, Nat.reduceSub, Nat.reduceMul, Nat.reduceEqDiff, Nat.reduceBEq, Nat.reduceBNe, Nat.reduceLT, Nat.reduceLeDiff, Int.reduceNeg, Int.reduceAdd, Int.reduceSub, Int.reduceMul, Int.reduceEq, Int.reduceLT, Int.reduceLE, Int.reduceToNat, reduceIte, reduceCtorEq]) ?_
          simp only [go_sem, Nat.reduceAdd, Nat.reduceSub, Nat.reduceMul, Nat.reduceEqDiff, Nat.reduceBEq, Nat.reduceBNe, Nat.reduceLT, Nat.reduceLeDiff, Int.reduceNeg, Int.reduceAdd, Int.reduceSub, Int.reduceMul, Int.reduceEq, Int.reduceLT, Int.reduceLE, Int.reduceToNat, reduceIte, reduceCtorEq, List.set]
          refine callM.use ((ok127 (Cur.mk c.b i e) q3 (l.length : Int))) ?_
          rintro _ _ ⟨k, i2, e2, rfl, k1, k2, k3, k4, rfl⟩
          simp only [go_sem, Nat.reduceAdd, Nat.reduceSub, Nat.reduceMul, Nat.reduceEqDiff, Nat.reduceBEq, Nat.reduceBNe, Nat.reduceLT, Nat.reduceLeDiff, Int.reduceNeg, Int.reduceAdd, Int.reduceSub, Int.reduceMul, Int.reduceEq, Int.reduceLT, Int.reduceLE, Int.reduceToNat, reduceIte, reduceCtorEq]
          have k5 := k2 (by omega)
          refine call_mut 0 0 rfl rfl rfl (by simp only [go_sem, Nat.reduceAdd, Nat.reduceSub, Nat.reduceMul, Nat.reduceEqDiff, Nat.reduceBEq, Nat.reduceBNe, Nat.reduceLT, Nat.reduceLeDiff, Int.reduceNeg, Int.reduceAdd, Int.reduceSub, Int.reduceMul, Int.reduceEq, Int.reduceLT, Int.reduceLE, Int.reduceToNat, reduceIte, reduceCtorEq]) ?_
          simp only [go_sem, Nat.reduceAdd, Nat.reduceSub, Nat.reduceMul, Nat.reduceEqDiff, Nat.reduceBEq, Nat.reduceBNe, Nat.reduceLT, Nat.reduceLeDiff, Int.reduceNeg, Int.reduceAdd, Int.reduceSub, Int.reduceMul, Int.reduceEq, Int.reduceLT, Int.reduceLE, Int.reduceToNat, reduceIte, reduceCtorEq, List.set]
          refine callM.use ((ok127 (Cur.mk c.b i2 e2) k4 4)) ?_
          rintro _ _ ⟨m, i3, e3, rfl, m1, m2, m3, m4, rfl⟩
          simp only [go_sem, Nat.reduceAdd, Nat.reduceSub, Nat.reduceMul, Nat.reduceEqDiff, Nat.reduceBEq, Nat.reduceBNe, Nat.reduceLT, Nat.reduceLeDiff, Int.reduceNeg, Int.reduceAdd, Int.reduceSub, Int.reduceMul, Int.reduceEq, Int.reduceLT, Int.reduceLE, Int.reduceToNat, reduceIte, reduceCtorEq]
          have kn : k.toNat < l.length := by omega
          have kk : ((k.toNat : Nat) : Int) = k := by omega
          have hwk : IntKind.i64.wrap (k + 1) = k + 1 := wrap64 (by omega) (by omega)
          first | refine branch_ndec (fun h4 => ?_) (fun h4 => ?_) | refine branch_dec (fun h4 => ?_) (fun h4 => ?_) | refine branch_nbool (fun h4 => ?_) (fun h4 => ?_) | refine branch_split (fun h4 => ?_) (fun h4 => ?_)
          · simp only [go_sem, Nat.reduceAdd, Nat.reduceSub, Nat.reduceMul, Nat.reduceEqDiff, Nat.reduceBEq, Nat.reduceBNe, Nat.reduceLT, Nat.reduceLeDiff, Int.reduceNeg, Int.reduceAdd, Int.reduceSub, Int.reduceMul, Int.reduceEq, Int.reduceLT, Int.reduceLE, Int.reduceToNat, reduceIte, reduceCtorEq]
            intro _
            refine call_mut 0 0 rfl rfl rfl (by simp only [go_sem, Nat.reduceAdd, Nat.reduceSub, Nat.reduceMul, Nat.reduceEqDiff, Nat.reduceBEq, Nat.reduceBNe, Nat.reduceLT, Nat.reduceLeDiff, Int.reduceNeg, Int.reduceAdd, Int.reduceSub, Int.reduceMul, Int.reduceEq, Int.reduceLT, Int.reduceLE, Int.reduceToNat, reduceIte, reduceCtorEq]) ?_
            simp only [go_sem, Nat.reduceAdd, Nat.reduceSub, Nat.reduceMul, Nat.reduceEqDiff, Nat.reduceBEq, Nat.reduceBNe, Nat.reduceLT, Nat.reduceLeDiff, Int.reduceNeg, Int.reduceAdd, Int.reduceSub, Int.reduceMul, Int.reduceEq, Int.reduceLT, Int.reduceLE, Int.reduceToNat, reduceIte, reduceCtorEq, List.set]
            refine callM.use ((ok127 (Cur.mk c.b i3 e3) m4 (g.size : Int))) ?_
            rintro _ _ ⟨b, i4, e4, rfl, b1, b2, b3, b4, rfl⟩
            simp only [go_sem, Nat.reduceAdd, Nat.reduceSub, Nat.reduceMul, Nat.reduceEqDiff, Nat.reduceBEq, Nat.reduceBNe, Nat.reduceLT, Nat.reduceLeDiff, Int.reduceNeg, Int.reduceAdd, Int.reduceSub, Int.reduceMul, Int.reduceEq, Int.reduceLT, Int.reduceLE, Int.reduceToNat, reduceIte, reduceCtorEq]
            have b5 := b2 (by omega)
            refine ⟨b1, b5, ?_⟩
            simp only [go_sem, Nat.reduceAdd, Nat.reduceSub, Nat.reduceMul, Nat.reduceEqDiff, Nat.reduceBEq, Nat.reduceBNe, Nat.reduceLT, Nat.reduceLeDiff, Int.reduceNeg, Int.reduceAdd, Int.reduceSub, Int.reduceMul, Int.reduceEq, Int.reduceLT, Int.reduceLE, Int.reduceToNat, reduceIte, reduceCtorEq, k1, k5, kn, hw8]
            refine again_intro ((true, l.set k.toNat (g.data.toList.getD b.toNat 0)), n - 1, i4, e4) ⟨by simp only [List.length_set]; omega, by simp only; omega, b4, by simp⟩ (by simp only; omega) ?_
            simp only [go_sem, Nat.reduceAdd, Nat.reduceSub, Nat.reduceMul, Nat.reduceEqDiff, Nat.reduceBEq, Nat.reduceBNe, Nat.reduceLT, Nat.reduceLeDiff, Int.reduceNeg, Int.reduceAdd, Int.reduceSub, Int.reduceMul, Int.reduceEq, Int.reduceLT, Int.reduceLE, Int.reduceToNat, reduceIte, reduceCtorEq]
            exact modify_enc (f := byteA) (v := g.data.toList.getD b.toNat 0) rfl
          · simp only [go_sem, Nat.reduceAdd, Nat.reduceSub, Nat.reduceMul, Nat.reduceEqDiff, Nat.reduceBEq, Nat.reduceBNe, Nat.reduceLT, Nat.reduceLeDiff, Int.reduceNeg, Int.reduceAdd, Int.reduceSub, Int.reduceMul, Int.reduceEq, Int.reduceLT, Int.reduceLE, Int.reduceToNat, reduceIte, reduceCtorEq]
            first | refine branch_ndec (fun h5 => ?_) (fun h5 => ?_) | refine branch_dec (fun h5 => ?_) (fun h5 => ?_) | refine branch_nbool (fun h5 => ?_) (fun h5 => ?_) | refine branch_split (fun h5 => ?_) (fun h5 => ?_)
            · simp only [go_sem, Nat.reduceAdd, Nat.reduceSub, Nat.reduceMul, Nat.reduceEqDiff, Nat.reduceBEq, Nat.reduceBNe, Nat.reduceLT, Nat.reduceLeDiff, Int.reduceNeg, Int.reduceAdd, Int.reduceSub, Int.reduceMul, Int.reduceEq, Int.reduceLT, Int.reduceLE, Int.reduceToNat, reduceIte, reduceCtorEq]
              refine ⟨k1, by omega, fun _ => ⟨by omega, ?_⟩, fun hk0 => ?_⟩
              · rw [hw8]
                refine again_intro ((true, l.take k.toNat), n - 1, i3, e3) ⟨by simp only [List.length_take]; omega, by simp only; omega, m4, by simp⟩ (by simp only; omega) ?_
                simp only [go_sem, Nat.reduceAdd, Nat.reduceSub, Nat.reduceMul, Nat.reduceEqDiff, Nat.reduceBEq, Nat.reduceBNe, Nat.reduceLT, Nat.reduceLeDiff, Int.reduceNeg, Int.reduceAdd, Int.reduceSub, Int.reduceMul, Int.reduceEq, Int.reduceLT, Int.reduceLE, Int.reduceToNat, reduceIte, reduceCtorEq]
                try trivial
              · rw [hw8]
                refine again_intro ((false, []), n - 1, i3, e3) ⟨by simp only [List.length_nil]; omega, by simp only; omega, m4, by simp⟩ (by simp only; omega) ?_
                simp only [go_sem, Nat.reduceAdd, Nat.reduceSub, Nat.reduceMul, Nat.reduceEqDiff, Nat.reduceBEq, Nat.reduceBNe, Nat.reduceLT, Nat.reduceLeDiff, Int.reduceNeg, Int.reduceAdd, Int.reduceSub, Int.reduceMul, Int.reduceEq, Int.reduceLT, Int.reduceLE, Int.reduceToNat, reduceIte, reduceCtorEq]
                try trivial
            · simp only [go_sem, Nat.reduceAdd, Nat.reduceSub, Nat.reduceMul, Nat.reduceEqDiff, Nat.reduceBEq, Nat.reduceBNe, Nat.reduceLT, Nat.reduceLeDiff, Int.reduceNeg, Int.reduceAdd, Int.reduceSub, Int.reduceMul, Int.reduceEq, Int.reduceLT, Int.reduceLE, Int.reduceToNat, reduceIte, reduceCtorEq]
              have hkl : k.toNat ≤ l.length := by omega
              have e0 : k.toNat - 0 = k.toNat := Nat.sub_zero _
              have f1 : k ≤ (l.length : Int) := by omega
              have f2 : (l.length : Int) ≤ (l.length : Int) := Int.le_refl _
              have f3 : ¬ k = (l.length : Int) := by omega
              have f4 : (0 : Int) ≤ k + 1 := by omega
              have f5 : k + 1 ≤ (l.length : Int) := by omega
              have e1 : (k + 1).toNat = k.toNat + 1 := by omega
              have e2 : ((l.length : Nat) : Int).toNat = l.length := by omega
              have e3' : k.toNat + 1 + (l.length - (k.toNat + 1)) = l.length := by omega
              have e4 : k.toNat + (l.length - k.toNat) = l.length := by omega
              have z0 : ¬ (0 : Int) < 0 := by omega
              have z1 : ¬ (False : Prop) := id
              first | refine branch_ndec (fun h6 => ?_) (fun h6 => ?_) | refine branch_dec (fun h6 => ?_) (fun h6 => ?_) | refine branch_nbool (fun h6 => ?_) (fun h6 => ?_) | refine branch_split (fun h6 => ?_) (fun h6 => ?_)
              · obtain ⟨iX, hiX⟩ : ∃ iX, iX = i3 := ⟨_, rfl⟩
                obtain ⟨eX, heX⟩ : ∃ eX, eX = e3 := ⟨_, rfl⟩
                rw [← hiX, ← heX]
                have mX : 0 ≤ iX := by omega
                by_cases hA : 0 < k <;> by_cases hB : k + 1 < (l.length : Int)
                · have hA' : ¬ (0 : Int) = k := by omega
                  have hB' : ¬ k + 1 = (l.length : Int) := by omega
                  simp only [go_sem, Nat.reduceAdd, Nat.reduceSub, Nat.reduceMul, Nat.reduceEqDiff, Nat.reduceBEq, Nat.reduceBNe, Nat.reduceLT, Nat.reduceLeDiff, Int.reduceNeg, Int.reduceAdd, Int.reduceSub, Int.reduceMul, Int.reduceEq, Int.reduceLT, Int.reduceLE, Int.reduceToNat, reduceIte, reduceCtorEq, k1, f1, f2, f4, f5, hwk, hA, hA', hB, hB', e0, hkl, e1, e2, e3', Nat.le_refl, false_implies]
                  repeat' first | refine And.intro ?_ ?_ | intro _
                  all_goals first
                    | (exfalso; assumption)
                    | (simp only [List.length_take, List.length_drop, List.length_append, List.length_cons, List.length_nil]; omega)
                    | skip
                  all_goals
                    rw [hw8]
                    refine again_intro ((true, (l.take k.toNat ++ (l.drop (k.toNat + 1)).take (l.length - (k.toNat + 1)))), n - 1, iX, eX) ⟨by simp only [List.length_take, List.length_drop, List.length_append, List.length_cons, List.length_nil]; omega, by simp only; omega, mX, by simp⟩ (by simp only; omega) ?_
                    simp only [go_sem, Nat.reduceAdd, Nat.reduceSub, Nat.reduceMul, Nat.reduceEqDiff, Nat.reduceBEq, Nat.reduceBNe, Nat.reduceLT, Nat.reduceLeDiff, Int.reduceNeg, Int.reduceAdd, Int.reduceSub, Int.reduceMul, Int.reduceEq, Int.reduceLT, Int.reduceLE, Int.reduceToNat, reduceIte, reduceCtorEq]
                    try trivial
                · have hA' : ¬ (0 : Int) = k := by omega
                  have hB' : k + 1 = (l.length : Int) := by omega
                  simp only [go_sem, Nat.reduceAdd, Nat.reduceSub, Nat.reduceMul, Nat.reduceEqDiff, Nat.reduceBEq, Nat.reduceBNe, Nat.reduceLT, Nat.reduceLeDiff, Int.reduceNeg, Int.reduceAdd, Int.reduceSub, Int.reduceMul, Int.reduceEq, Int.reduceLT, Int.reduceLE, Int.reduceToNat, reduceIte, reduceCtorEq, k1, f1, f2, f4, f5, hwk, hA, hA', hB, eq_true hB', e0, hkl, e1, e2, e3', Nat.le_refl, false_implies]
                  repeat' first | refine And.intro ?_ ?_ | intro _
                  all_goals first
                    | (exfalso; assumption)
                    | (simp only [List.length_take, List.length_drop, List.length_append, List.length_cons, List.length_nil]; omega)
                    | skip
                  all_goals
                    rw [hw8]
                    refine again_intro ((true, (l.take k.toNat)), n - 1, iX, eX) ⟨by simp only [List.length_take, List.length_drop, List.length_append, List.length_cons, List.length_nil]; omega, by simp only; omega, mX, by simp⟩ (by simp only; omega) ?_
                    simp only [go_sem, Nat.reduceAdd, Nat.reduceSub, Nat.reduceMul, Nat.reduceEqDiff, Nat.reduceBEq, Nat.reduceBNe, Nat.reduceLT, Nat.reduceLeDiff, Int.reduceNeg, Int.reduceAdd, Int.reduceSub, Int.reduceMul, Int.reduceEq, Int.reduceLT, Int.reduceLE, Int.reduceToNat, reduceIte, reduceCtorEq]
                    try trivial
                · have hA' : (0 : Int) = k := by omega
                  have hB' : ¬ k + 1 = (l.length : Int) := by omega
                  simp only [go_sem, Nat.reduceAdd, Nat.reduceSub, Nat.reduceMul, Nat.reduceEqDiff, Nat.reduceBEq, Nat.reduceBNe, Nat.reduceLT, Nat.reduceLeDiff, Int.reduceNeg, Int.reduceAdd, Int.reduceSub, Int.reduceMul, Int.reduceEq, Int.reduceLT, Int.reduceLE, Int.reduceToNat, reduceIte, reduceCtorEq, k1, f1, f2, f4, f5, hwk, hA, eq_true hA', hB, hB', e0, hkl, e1, e2, e3', Nat.le_refl, false_implies]
                  repeat' first | refine And.intro ?_ ?_ | intro _
                  all_goals first
                    | (exfalso; assumption)
                    | (simp only [List.length_take, List.length_drop, List.length_append, List.length_cons, List.length_nil]; omega)
                    | skip
                  all_goals
                    rw [hw8]
                    refine again_intro ((true, ((l.drop (k.toNat + 1)).take (l.length - (k.toNat + 1)))), n - 1, iX, eX) ⟨by simp only [List.length_take, List.length_drop, List.length_append, List.length_cons, List.length_nil]; omega, by simp only; omega, mX, by simp⟩ (by simp only; omega) ?_
                    simp only [go_sem, Nat.reduceAdd, Nat.reduceSub, Nat.reduceMul, Nat.reduceEqDiff, Nat.reduceBEq, Nat.reduceBNe, Nat.reduceLT, Nat.reduceLeDiff, Int.reduceNeg, Int.reduceAdd, Int.reduceSub, Int.reduceMul, Int.reduceEq, Int.reduceLT, Int.reduceLE, Int.reduceToNat, reduceIte, reduceCtorEq]
                    try trivial
                · have hA' : (0 : Int) = k := by omega
                  have hB' : k + 1 = (l.length : Int) := by omega
                  simp only [go_sem, Nat.reduceAdd, Nat.reduceSub, Nat.reduceMul, Nat.reduceEqDiff, Nat.reduceBEq, Nat.reduceBNe, Nat.reduceLT, Nat.reduceLeDiff, Int.reduceNeg, Int.reduceAdd, Int.reduceSub, Int.reduceMul, Int.reduceEq, Int.reduceLT, Int.reduceLE, Int.reduceToNat, reduceIte, reduceCtorEq, k1, f1, f2, f4, f5, hwk, hA, eq_true hA', hB, eq_true hB', e0, hkl, e1, e2, e3', Nat.le_refl, false_implies]
                  repeat' first | refine And.intro ?_ ?_ | intro _
                  all_goals first
                    | (exfalso; assumption)
                    | (simp only [List.length_take, List.length_drop, List.length_append, List.length_cons, List.length_nil]; omega)
                    | skip
                  all_goals
                    rw [hw8]
                    refine again_intro ((true, []), n - 1, iX, eX) ⟨by simp only [List.length_take, List.length_drop, List.length_append, List.length_cons, List.length_nil]; omega, by simp only; omega, mX, by simp⟩ (by simp only; omega) ?_
                    simp only [go_sem, Nat.reduceAdd, Nat.reduceSub, Nat.reduceMul, Nat.reduceEqDiff, Nat.reduceBEq, Nat.reduceBNe, Nat.reduceLT, Nat.reduceLeDiff, Int.reduceNeg, Int.reduceAdd, Int.reduceSub, Int.reduceMul, Int.reduceEq, Int.reduceLT, Int.reduceLE, Int.reduceToNat, reduceIte, reduceCtorEq]
                    try trivial
              · have h7 : m = 3 := by omega
                simp only [go_sem, Nat.reduceAdd, Nat.reduceSub, Nat.reduceMul, Nat.reduceEqDiff, Nat.reduceBEq, Nat.reduceBNe, Nat.reduceLT, Nat.reduceLeDiff, Int.reduceNeg, Int.reduceAdd, Int.reduceSub, Int.reduceMul, Int.reduceEq, Int.reduceLT, Int.reduceLE, Int.reduceToNat, reduceIte, reduceCtorEq, h7]
                intro _
                by_cases hA : 0 < k
                · have hA' : ¬ (0 : Int) = k := by omega
                  simp only [go_sem, Nat.reduceAdd, Nat.reduceSub, Nat.reduceMul, Nat.reduceEqDiff, Nat.reduceBEq, Nat.reduceBNe, Nat.reduceLT, Nat.reduceLeDiff, Int.reduceNeg, Int.reduceAdd, Int.reduceSub, Int.reduceMul, Int.reduceEq, Int.reduceLT, Int.reduceLE, Int.reduceToNat, reduceIte, reduceCtorEq, k1, f1, f2, f3, k5, hA, hA', e0, hkl, e2, e4, Nat.le_refl, false_implies]
                  repeat' first | refine And.intro ?_ ?_ | intro _
                  all_goals first
                    | (exfalso; assumption)
                    | (simp only [List.length_take, List.length_drop, List.length_append, List.length_cons, List.length_nil]; omega)
                    | skip
                  all_goals
                    refine call_mut 0 0 rfl rfl rfl (by simp only [go_sem, Nat.reduceAdd, Nat.reduceSub, Nat.reduceMul, Nat.reduceEqDiff, Nat.reduceBEq, Nat.reduceBNe, Nat.reduceLT, Nat.reduceLeDiff, Int.reduceNeg, Int.reduceAdd, Int.reduceSub, Int.reduceMul, Int.reduceEq, Int.reduceLT, Int.reduceLE, Int.reduceToNat, reduceIte, reduceCtorEq]) ?_
                    simp only [go_sem, Nat.reduceAdd, Nat.reduceSub, Nat.reduceMul, Nat.reduceEqDiff, Nat.reduceBEq, Nat.reduceBNe, Nat.reduceLT, Nat.reduceLeDiff, Int.reduceNeg, Int.reduceAdd, Int.reduceSub, Int.reduceMul, Int.reduceEq, Int.reduceLT, Int.reduceLE, Int.reduceToNat, reduceIte, reduceCtorEq, List.set]
                    refine callM.use ((ok127 (Cur.mk c.b i3 e3) m4 (g.size : Int))) ?_
                    rintro _ _ ⟨bX, iX, eX, rfl, b1, b2, b3, mX, rfl⟩
                    simp only [go_sem, Nat.reduceAdd, Nat.reduceSub, Nat.reduceMul, Nat.reduceEqDiff, Nat.reduceBEq, Nat.reduceBNe, Nat.reduceLT, Nat.reduceLeDiff, Int.reduceNeg, Int.reduceAdd, Int.reduceSub, Int.reduceMul, Int.reduceEq, Int.reduceLT, Int.reduceLE, Int.reduceToNat, reduceIte, reduceCtorEq]
                    have b5 := b2 (by omega)
                    simp only [go_sem, Nat.reduceAdd, Nat.reduceSub, Nat.reduceMul, Nat.reduceEqDiff, Nat.reduceBEq, Nat.reduceBNe, Nat.reduceLT, Nat.reduceLeDiff, Int.reduceNeg, Int.reduceAdd, Int.reduceSub, Int.reduceMul, Int.reduceEq, Int.reduceLT, Int.reduceLE, Int.reduceToNat, reduceIte, reduceCtorEq, b1, b5, k1, f1, f2, f3, k5, hA, hA', e0, hkl, e2, e4, Nat.le_refl, false_implies]
                    repeat' first | refine And.intro ?_ ?_ | intro _
                    all_goals first
                      | (exfalso; assumption)
                      | (simp only [List.length_take, List.length_drop, List.length_append, List.length_cons, List.length_nil]; omega)
                      | skip
                    all_goals
                      rw [hw8]
                      refine again_intro ((true, (l.take k.toNat ++ [g.data.toList.getD bX.toNat 0] ++ (l.drop k.toNat).take (l.length - k.toNat))), n - 1, iX, eX) ⟨by simp only [List.length_take, List.length_drop, List.length_append, List.length_cons, List.length_nil]; omega, by simp only; omega, mX, by simp⟩ (by simp only; omega) ?_
                      simp only [go_sem, Nat.reduceAdd, Nat.reduceSub, Nat.reduceMul, Nat.reduceEqDiff, Nat.reduceBEq, Nat.reduceBNe, Nat.reduceLT, Nat.reduceLeDiff, Int.reduceNeg, Int.reduceAdd, Int.reduceSub, Int.reduceMul, Int.reduceEq, Int.reduceLT, Int.reduceLE, Int.reduceToNat, reduceIte, reduceCtorEq]
                      first | trivial | (rw [Nat.add_sub_cancel, List.take_length]; done) | (refine List.take_of_length_le ?_; simp; done) | (refine List.take_of_length_le ?_; simp; omega)
                · have hA' : (0 : Int) = k := by omega
                  simp only [go_sem, Nat.reduceAdd, Nat.reduceSub, Nat.reduceMul, Nat.reduceEqDiff, Nat.reduceBEq, Nat.reduceBNe, Nat.reduceLT, Nat.reduceLeDiff, Int.reduceNeg, Int.reduceAdd, Int.reduceSub, Int.reduceMul, Int.reduceEq, Int.reduceLT, Int.reduceLE, Int.reduceToNat, reduceIte, reduceCtorEq, k1, f1, f2, f3, k5, hA, eq_true hA', e0, hkl, e2, e4, Nat.le_refl, false_implies]
                  repeat' first | refine And.intro ?_ ?_ | intro _
                  all_goals first
                    | (exfalso; assumption)
                    | (simp only [List.length_take, List.length_drop, List.length_append, List.length_cons, List.length_nil]; omega)
                    | skip
                  all_goals
                    refine call_mut 0 0 rfl rfl rfl (by simp only [go_sem, Nat.reduceAdd, Nat.reduceSub, Nat.reduceMul, Nat.reduceEqDiff, Nat.reduceBEq, Nat.reduceBNe, Nat.reduceLT, Nat.reduceLeDiff, Int.reduceNeg, Int.reduceAdd, Int.reduceSub, Int.reduceMul, Int.reduceEq, Int.reduceLT, Int.reduceLE, Int.reduceToNat, reduceIte, reduceCtorEq]) ?_
                    simp only [go_sem, Nat.reduceAdd, Nat.reduceSub, Nat.reduceMul, Nat.reduceEqDiff, Nat.reduceBEq, Nat.reduceBNe, Nat.reduceLT, Nat.reduceLeDiff, Int.reduceNeg, Int.reduceAdd, Int.reduceSub, Int.reduceMul, Int.reduceEq, Int.reduceLT, Int.reduceLE, Int.reduceToNat, reduceIte, reduceCtorEq, List.set]
                    refine callM.use ((ok127 (Cur.mk c.b i3 e3) m4 (g.size : Int))) ?_
                    rintro _ _ ⟨bX, iX, eX, rfl, b1, b2, b3, mX, rfl⟩
                    simp only [go_sem, Nat.reduceAdd, Nat.reduceSub, Nat.reduceMul, Nat.reduceEqDiff, Nat.reduceBEq, Nat.reduceBNe, Nat.reduceLT, Nat.reduceLeDiff, Int.reduceNeg, Int.reduceAdd, Int.reduceSub, Int.reduceMul, Int.reduceEq, Int.reduceLT, Int.reduceLE, Int.reduceToNat, reduceIte, reduceCtorEq]
                    have b5 := b2 (by omega)
                    simp only [go_sem, Nat.reduceAdd, Nat.reduceSub, Nat.reduceMul, Nat.reduceEqDiff, Nat.reduceBEq, Nat.reduceBNe, Nat.reduceLT, Nat.reduceLeDiff, Int.reduceNeg, Int.reduceAdd, Int.reduceSub, Int.reduceMul, Int.reduceEq, Int.reduceLT, Int.reduceLE, Int.reduceToNat, reduceIte, reduceCtorEq, b1, b5, k1, f1, f2, f3, k5, hA, eq_true hA', e0, hkl, e2, e4, Nat.le_refl, false_implies]
                    repeat' first | refine And.intro ?_ ?_ | intro _
                    all_goals first
                      | (exfalso; assumption)
                      | (simp only [List.length_take, List.length_drop, List.length_append, List.length_cons, List.length_nil]; omega)
                      | skip
                    all_goals
                      rw [hw8]
                      refine again_intro ((true, ([g.data.toList.getD bX.toNat 0] ++ (l.drop k.toNat).take (l.length - k.toNat))), n - 1, iX, eX) ⟨by simp only [List.length_take, List.length_drop, List.length_append, List.length_cons, List.length_nil]; omega, by simp only; omega, mX, by simp⟩ (by simp only; omega) ?_
                      simp only [go_sem, Nat.reduceAdd, Nat.reduceSub, Nat.reduceMul, Nat.reduceEqDiff, Nat.reduceBEq, Nat.reduceBNe, Nat.reduceLT, Nat.reduceLeDiff, Int.reduceNeg, Int.reduceAdd, Int.reduceSub, Int.reduceMul, Int.reduceEq, Int.reduceLT, Int.reduceLE, Int.reduceToNat, reduceIte, reduceCtorEq]
                      first | trivial | (rw [Nat.add_sub_cancel, List.take_length]; done) | (refine List.take_of_length_le ?_; simp; done) | (refine List.take_of_length_le ?_; simp; omega)
end Go.VS

set_option linter.unusedSimpArgs false
set_option linter.unusedVariables false
open Go.Proofs
set_option maxRecDepth 20000
namespace Go.VS
theorem f214_at : gz.P.funcs[214]? = some Tryz.f214 := by
  have h : Tryz.prog.funcs[214]? = some Tryz.f214 := by kernel_rfl
  exact h
theorem Dev.sw_ok {d : Dev} (h : d.ok = true) (t : ByteArray) : (d.sw t).1.ok = true := by
  by_cases hm : d.may t
  · rw [Dev.sw_may hm]
    exact Dev.barrier_ok (Dev.laid_ok hm)
  · rw [Dev.sw_not h hm]
    exact h
set_option maxHeartbeats 4000000 in
theorem ok214 (c : Cur) (hc : 0 ≤ c.i) : VCalls gz 214 [.ptr true c.enc] (some 0) (fun y x' => ∃ d i h, y = Dev.enc true d ∧ d.ok = true ∧ 0 ≤ i ∧ x' = (Cur.mk c.b i h).enc) := by
  refine VCalls.go (nt := 45) (keep := [0, 2, 3, 5, 16, 27]) (muts := [0]) (mvs := [8]) [(5, .tree false (.take 1 (.all (.cons 0 (.all (.cons 2 (.all (.cons 3 (.take 4 (.take 5 (.take 6 (.all (.cons 7 .done .nil))))) .nil)) .nil)) (.cons 2 (.all (.cons 0 (.all (.cons 3 (.take 4 (.take 5 (.take 6 (.all (.cons 7 .done .nil))))) .nil)) .nil)) .nil))))), (7, .tree false (.take 1 (.take 3 (.take 8 (.all (.cons 0 (.all (.cons 2 (.all (.cons 4 (.take 5 (.all (.cons 6 (.all (.cons 7 (.all (.cons 9 (.take 10 (.all (.cons 11 (.all (.cons 12 (.take 13 (.take 14 (.take 15 (.all (.cons 16 .done .nil))))) .nil)) .nil))) .nil)) (.cons 9 (.all (.cons 7 (.take 10 (.all (.cons 11 (.all (.cons 12 (.take 13 (.take 14 (.take 15 (.all (.cons 16 .done .nil))))) .nil)) .nil))) .nil)) .nil))) .nil))) .nil)) .nil)) (.cons 2 (.all (.cons 0 (.all (.cons 4 (.take 5 (.all (.cons 6 (.all (.cons 7 (.all (.cons 9 (.take 10 (.all (.cons 11 (.all (.cons 12 (.take 13 (.take 14 (.take 15 (.all (.cons 16 .done .nil))))) .nil)) .nil))) .nil)) (.cons 9 (.all (.cons 7 (.take 10 (.all (.cons 11 (.all (.cons 12 (.take 13 (.take 14 (.take 15 (.all (.cons 16 .done .nil))))) .nil)) .nil))) .nil)) .nil))) .nil))) .nil)) (.cons 4 (.take 5 (.all (.cons 0 (.all (.cons 6 (.all (.cons 7 (.all (.cons 9 (.take 10 (.all (.cons 11 (.all (.cons 12 (.take 13 (.take 14 (.take 15 (.all (.cons 16 .done .nil))))) .nil)) .nil))) .nil)) (.cons 9 (.all (.cons 7 (.take 10 (.all (.cons 11 (.all (.cons 12 (.take 13 (.take 14 (.take 15 (.all (.cons 16 .done .nil))))) .nil)) .nil))) .nil)) .nil))) .nil)) (.cons 6 (.all (.cons 0 (.all (.cons 7 (.all (.cons 9 (.take 10 (.all (.cons 11 (.all (.cons 12 (.take 13 (.take 14 (.take 15 (.all (.cons 16 .done .nil))))) .nil)) .nil))) .nil)) (.cons 9 (.all (.cons 7 (.take 10 (.all (.cons 11 (.all (.cons 12 (.take 13 (.take 14 (.take 15 (.all (.cons 16 .done .nil))))) .nil)) .nil))) .nil)) .nil))) (.cons 7 (.all (.cons 0 (.all (.cons 9 (.take 10 (.all (.cons 11 (.all (.cons 12 (.take 13 (.take 14 (.take 15 (.all (.cons 16 .done .nil))))) .nil)) .nil))) .nil)) (.cons 9 (.take 10 (.all (.cons 0 (.all (.cons 11 (.all (.cons 12 (.take 13 (.take 14 (.take 15 (.all (.cons 16 .done .nil))))) .nil)) .nil)) (.cons 11 (.all (.cons 0 (.all (.cons 12 (.take 13 (.take 14 (.take 15 (.all (.cons 16 .done .nil))))) .nil)) .nil)) .nil)))) .nil))) (.cons 9 (.all (.cons 0 (.all (.cons 7 (.take 10 (.all (.cons 11 (.all (.cons 12 (.take 13 (.take 14 (.take 15 (.all (.cons 16 .done .nil))))) .nil)) .nil))) .nil)) (.cons 7 (.take 10 (.all (.cons 0 (.all (.cons 11 (.all (.cons 12 (.take 13 (.take 14 (.take 15 (.all (.cons 16 .done .nil))))) .nil)) .nil)) (.cons 11 (.all (.cons 0 (.all (.cons 12 (.take 13 (.take 14 (.take 15 (.all (.cons 16 .done .nil))))) .nil)) .nil)) .nil)))) .nil))) .nil)))) .nil)))) .nil))) .nil)))))))] f214_at rfl (by kernel_rfl) rfl (by kernel_rfl) rfl (fun i h => by cases h; exact ⟨rfl, by simp⟩) rfl ?_
  intro hok
  simp only [go_sem, Nat.reduceAdd, Nat.reduceSub, Nat.reduceMul, Nat.reduceEqDiff, Nat.reduceBEq, Nat.reduceBNe, Nat.reduceLT, Nat.reduceLeDiff, Int.reduceNeg, Int.reduceAdd, Int.reduceSub, Int.reduceMul, Int.reduceEq, Int.reduceLT, Int.reduceLE, Int.reduceToNat, reduceIte, reduceCtorEq] at hok
  simp only [Tryz.f214, Func.code, Option.getD_some]
  simp only [go_sem, Nat.reduceAdd, Nat.reduceSub, Nat.reduceMul, Nat.reduceEqDiff, Nat.reduceBEq, Nat.reduceBNe, Nat.reduceLT, Nat.reduceLeDiff, Int.reduceNeg, Int.reduceAdd, Int.reduceSub, Int.reduceMul, Int.reduceEq, Int.reduceLT, Int.reduceLE, Int.reduceToNat, reduceIte, reduceCtorEq]
  refine call_mut 0 0 rfl rfl rfl (by simp only [go_sem, Nat.reduceAdd, Nat.reduceSub, Nat.reduceMul, Nat.reduceEqDiff, Nat.reduceBEq, Nat.reduceBNe, Nat.reduceLT, Nat.reduceLeDiff, Int.reduceNeg, Int.reduceAdd, Int.reduceSub, Int.reduceMul, Int.reduceEq, Int.reduceLT, Int.reduceLE, Int.reduceToNat, reduceIte, reduceCtorEq]) ?_
  simp only [go_sem, Nat.reduceAdd, Nat.reduceSub, Nat.reduceMul, Nat.reduceEqDiff, Nat.reduceBEq, Nat.reduceBNe, Nat.reduceLT, Nat.reduceLeDiff, Int.reduceNeg, Int.reduceAdd, Int.reduceSub, Int.reduceMul, Int.reduceEq, Int.reduceLT, Int.reduceLE, Int.reduceToNat, reduceIte, reduceCtorEq, List.set]
  refine callM.use ((ok127 c hc 2)) ?_
  rintro _ _ ⟨n, i1, e1, rfl, p1, p2, p3, p4, rfl⟩
  simp only [go_sem, Nat.reduceAdd, Nat.reduceSub, Nat.reduceMul, Nat.reduceEqDiff, Nat.reduceBEq, Nat.reduceBNe, Nat.reduceLT, Nat.reduceLeDiff, Int.reduceNeg, Int.reduceAdd, Int.reduceSub, Int.reduceMul, Int.reduceEq, Int.reduceLT, Int.reduceLE, Int.reduceToNat, reduceIte, reduceCtorEq]
  have p5 := p2 (by omega)
  have hw : IntKind.i64.wrap (2 + n) = 2 + n := wrap64 (by omega) (by omega)
  simp only [go_sem, Nat.reduceAdd, Nat.reduceSub, Nat.reduceMul, Nat.reduceEqDiff, Nat.reduceBEq, Nat.reduceBNe, Nat.reduceLT, Nat.reduceLeDiff, Int.reduceNeg, Int.reduceAdd, Int.reduceSub, Int.reduceMul, Int.reduceEq, Int.reduceLT, Int.reduceLE, Int.reduceToNat, reduceIte, reduceCtorEq, hw]
  have hnew := ok252 (2 + n)
  rw [if_pos (by omega)] at hnew
  refine call_lend ?_
  simp only [go_sem, Nat.reduceAdd, Nat.reduceSub, Nat.reduceMul, Nat.reduceEqDiff, Nat.reduceBEq, Nat.reduceBNe, Nat.reduceLT, Nat.reduceLeDiff, Int.reduceNeg, Int.reduceAdd, Int.reduceSub, Int.reduceMul, Int.reduceEq, Int.reduceLT, Int.reduceLE, Int.reduceToNat, reduceIte, reduceCtorEq]
  refine callN.eq (hnew) (by simp only [go_sem, Nat.reduceAdd, Nat.reduceSub, Nat.reduceMul, Nat.reduceEqDiff, Nat.reduceBEq, Nat.reduceBNe, Nat.reduceLT, Nat.reduceLeDiff, Int.reduceNeg, Int.reduceAdd, Int.reduceSub, Int.reduceMul, Int.reduceEq, Int.reduceLT, Int.reduceLE, Int.reduceToNat, reduceIte, reduceCtorEq]) ?_
  simp only [go_sem, Nat.reduceAdd, Nat.reduceSub, Nat.reduceMul, Nat.reduceEqDiff, Nat.reduceBEq, Nat.reduceBNe, Nat.reduceLT, Nat.reduceLeDiff, Int.reduceNeg, Int.reduceAdd, Int.reduceSub, Int.reduceMul, Int.reduceEq, Int.reduceLT, Int.reduceLE, Int.reduceToNat, reduceIte, reduceCtorEq]
  refine call_mut 0 0 rfl rfl rfl (by simp only [go_sem, Nat.reduceAdd, Nat.reduceSub, Nat.reduceMul, Nat.reduceEqDiff, Nat.reduceBEq, Nat.reduceBNe, Nat.reduceLT, Nat.reduceLeDiff, Int.reduceNeg, Int.reduceAdd, Int.reduceSub, Int.reduceMul, Int.reduceEq, Int.reduceLT, Int.reduceLE, Int.reduceToNat, reduceIte, reduceCtorEq]) ?_
  simp only [go_sem, Nat.reduceAdd, Nat.reduceSub, Nat.reduceMul, Nat.reduceEqDiff, Nat.reduceBEq, Nat.reduceBNe, Nat.reduceLT, Nat.reduceLeDiff, Int.reduceNeg, Int.reduceAdd, Int.reduceSub, Int.reduceMul, Int.reduceEq, Int.reduceLT, Int.reduceLE, Int.reduceToNat, reduceIte, reduceCtorEq, List.set]
  refine callM.use ((ok127 (Cur.mk c.b i1 e1) p4 5)) ?_
  rintro _ _ ⟨n2, i2, e2, rfl, q1, q2, q3, q4, rfl⟩
  simp only [go_sem, Nat.reduceAdd, Nat.reduceSub, Nat.reduceMul, Nat.reduceEqDiff, Nat.reduceBEq, Nat.reduceBNe, Nat.reduceLT, Nat.reduceLeDiff, Int.reduceNeg, Int.reduceAdd, Int.reduceSub, Int.reduceMul, Int.reduceEq, Int.reduceLT, Int.reduceLE, Int.reduceToNat, reduceIte, reduceCtorEq]
  have q5 := q2 (by omega)
  refine vm_loopK (α := Dev × Int × Int × Int) (fun q => [(0, .ptr true (Cur.mk c.b q.2.2.1 q.2.2.2).enc), (2, .ptr true (.agg [.lst true 1 [], .lst true 2 []])), (3, .ptr true (q.1.enc true)), (5, .lit (.int .i64 q.2.1))]) (fun q => q.1.ok = true ∧ 0 ≤ q.2.1 ∧ q.2.1 ≤ 8 ∧ 0 ≤ q.2.2.1) (fun q => q.2.1.toNat) (⟨List.replicate (2 + n).toNat ByteArray.empty, []⟩, n2, i2, e2) ?_ ⟨Dev.new_ok (by omega) (by omega), by simp only; omega, by simp only; omega, q4⟩ (by kernel_rfl) (fun _ => rfl) ?_
  · simp only [go_sem, Nat.reduceAdd, Nat.reduceSub, Nat.reduceMul, Nat.reduceEqDiff, Nat.reduceBEq, Nat.reduceBNe, Nat.reduceLT, Nat.reduceLeDiff, Int.reduceNeg, Int.reduceAdd, Int.reduceSub, Int.reduceMul, Int.reduceEq, Int.reduceLT, Int.reduceLE, Int.reduceToNat, reduceIte, reduceCtorEq]
  · rintro ⟨d, n, i, e⟩ ⟨r1, r2, r3, r4⟩ _
    simp only at r1 r2 r3 r4
    simp only [go_sem, Nat.reduceAdd, Nat.reduceSub, Nat.reduceMul, Nat.reduceEqDiff, Nat.reduceBEq, Nat.reduceBNe, Nat.reduceLT, Nat.reduceLeDiff, Int.reduceNeg, Int.reduceAdd, Int.reduceSub, Int.reduceMul, Int.reduceEq, Int.reduceLT, Int.reduceLE, Int.reduceToNat, reduceIte, reduceCtorEq]
    first | refine branch_ndec (fun h => ?_) (fun h => ?_) | refine branch_dec (fun h => ?_) (fun h => ?_) | refine branch_nbool (fun h => ?_) (fun h => ?_) | refine branch_split (fun h => ?_) (fun h => ?_)
    · simp only [go_sem, Nat.reduceAdd, Nat.reduceSub, Nat.reduceMul, Nat.reduceEqDiff, Nat.reduceBEq, Nat.reduceBNe, Nat.reduceLT, Nat.reduceLeDiff, Int.reduceNeg, Int.reduceAdd, Int.reduceSub, Int.reduceMul, Int.reduceEq, Int.reduceLT, Int.reduceLE, Int.reduceToNat, reduceIte, reduceCtorEq]
      have hw : IntKind.i64.wrap (n - 1) = n - 1 := wrap64 (by omega) (by omega)
      repeat' first | refine And.intro ?_ ?_ | intro _
      all_goals
        refine call_mut 0 0 rfl rfl rfl (by simp only [go_sem, Nat.reduceAdd, Nat.reduceSub, Nat.reduceMul, Nat.reduceEqDiff, Nat.reduceBEq, Nat.reduceBNe, Nat.reduceLT, Nat.reduceLeDiff, Int.reduceNeg, Int.reduceAdd, Int.reduceSub, Int.reduceMul, Int.reduceEq, Int.reduceLT, Int.reduceLE, Int.reduceToNat, reduceIte, reduceCtorEq]) ?_
        simp only [go_sem, Nat.reduceAdd, Nat.reduceSub, Nat.reduceMul, Nat.reduceEqDiff, Nat.reduceBEq, Nat.reduceBNe, Nat.reduceLT, Nat.reduceLeDiff, Int.reduceNeg, Int.reduceAdd, Int.reduceSub, Int.reduceMul, Int.reduceEq, Int.reduceLT, Int.reduceLE, Int.reduceToNat, reduceIte, reduceCtorEq, List.set]
        refine callM.use ((ok128 (Cur.mk c.b i e) r4)) ?_
        rintro _ _ ⟨t, i2, e2, rfl, t1, t2, rfl⟩
        simp only [go_sem, Nat.reduceAdd, Nat.reduceSub, Nat.reduceMul, Nat.reduceEqDiff, Nat.reduceBEq, Nat.reduceBNe, Nat.reduceLT, Nat.reduceLeDiff, Int.reduceNeg, Int.reduceAdd, Int.reduceSub, Int.reduceMul, Int.reduceEq, Int.reduceLT, Int.reduceLE, Int.reduceToNat, reduceIte, reduceCtorEq]
      all_goals
        refine call_lend ?_
        simp only [go_sem, Nat.reduceAdd, Nat.reduceSub, Nat.reduceMul, Nat.reduceEqDiff, Nat.reduceBEq, Nat.reduceBNe, Nat.reduceLT, Nat.reduceLeDiff, Int.reduceNeg, Int.reduceAdd, Int.reduceSub, Int.reduceMul, Int.reduceEq, Int.reduceLT, Int.reduceLE, Int.reduceToNat, reduceIte, reduceCtorEq]
        refine callN.eq (ok17 d t) (by simp only [go_sem, Nat.reduceAdd, Nat.reduceSub, Nat.reduceMul, Nat.reduceEqDiff, Nat.reduceBEq, Nat.reduceBNe, Nat.reduceLT, Nat.reduceLeDiff, Int.reduceNeg, Int.reduceAdd, Int.reduceSub, Int.reduceMul, Int.reduceEq, Int.reduceLT, Int.reduceLE, Int.reduceToNat, reduceIte, reduceCtorEq]) ?_
        simp only [go_sem, Nat.reduceAdd, Nat.reduceSub, Nat.reduceMul, Nat.reduceEqDiff, Nat.reduceBEq, Nat.reduceBNe, Nat.reduceLT, Nat.reduceLeDiff, Int.reduceNeg, Int.reduceAdd, Int.reduceSub, Int.reduceMul, Int.reduceEq, Int.reduceLT, Int.reduceLE, Int.reduceToNat, reduceIte, reduceCtorEq]
        rw [hw]
        refine again_intro ((d.sw t).1, n - 1, i2, e2) ⟨Dev.sw_ok r1 t, by simp only; omega, by simp only; omega, t2⟩ (by simp only; omega) ?_
        simp only [go_sem, Nat.reduceAdd, Nat.reduceSub, Nat.reduceMul, Nat.reduceEqDiff, Nat.reduceBEq, Nat.reduceBNe, Nat.reduceLT, Nat.reduceLeDiff, Int.reduceNeg, Int.reduceAdd, Int.reduceSub, Int.reduceMul, Int.reduceEq, Int.reduceLT, Int.reduceLE, Int.reduceToNat, reduceIte, reduceCtorEq]
        try trivial
    · simp only [go_sem, Nat.reduceAdd, Nat.reduceSub, Nat.reduceMul, Nat.reduceEqDiff, Nat.reduceBEq, Nat.reduceBNe, Nat.reduceLT, Nat.reduceLeDiff, Int.reduceNeg, Int.reduceAdd, Int.reduceSub, Int.reduceMul, Int.reduceEq, Int.reduceLT, Int.reduceLE, Int.reduceToNat, reduceIte, reduceCtorEq]
      refine call_mut 0 0 rfl rfl rfl (by simp only [go_sem, Nat.reduceAdd, Nat.reduceSub, Nat.reduceMul, Nat.reduceEqDiff, Nat.reduceBEq, Nat.reduceBNe, Nat.reduceLT, Nat.reduceLeDiff, Int.reduceNeg, Int.reduceAdd, Int.reduceSub, Int.reduceMul, Int.reduceEq, Int.reduceLT, Int.reduceLE, Int.reduceToNat, reduceIte, reduceCtorEq]) ?_
      simp only [go_sem, Nat.reduceAdd, Nat.reduceSub, Nat.reduceMul, Nat.reduceEqDiff, Nat.reduceBEq, Nat.reduceBNe, Nat.reduceLT, Nat.reduceLeDiff, Int.reduceNeg, Int.reduceAdd, Int.reduceSub, Int.reduceMul, Int.reduceEq, Int.reduceLT, Int.reduceLE, Int.reduceToNat, reduceIte, reduceCtorEq, List.set]
      refine callM.use ((ok126 (Cur.mk c.b i e) r4 6)) ?_
      rintro _ _ ⟨u, i3, e3, rfl, u1, rfl⟩
      simp only [go_sem, Nat.reduceAdd, Nat.reduceSub, Nat.reduceMul, Nat.reduceEqDiff, Nat.reduceBEq, Nat.reduceBNe, Nat.reduceLT, Nat.reduceLeDiff, Int.reduceNeg, Int.reduceAdd, Int.reduceSub, Int.reduceMul, Int.reduceEq, Int.reduceLT, Int.reduceLE, Int.reduceToNat, reduceIte, reduceCtorEq]
      first | refine branch_ndec (fun h2 => ?_) (fun h2 => ?_) | refine branch_dec (fun h2 => ?_) (fun h2 => ?_) | refine branch_nbool (fun h2 => ?_) (fun h2 => ?_) | refine branch_split (fun h2 => ?_) (fun h2 => ?_)
      · simp only [go_sem, Nat.reduceAdd, Nat.reduceSub, Nat.reduceMul, Nat.reduceEqDiff, Nat.reduceBEq, Nat.reduceBNe, Nat.reduceLT, Nat.reduceLeDiff, Int.reduceNeg, Int.reduceAdd, Int.reduceSub, Int.reduceMul, Int.reduceEq, Int.reduceLT, Int.reduceLE, Int.reduceToNat, reduceIte, reduceCtorEq]
        have hs := (Dev.ok_small r1).1
        repeat' first | refine And.intro ?_ ?_ | intro _
        all_goals
          refine call_mut 0 0 rfl rfl rfl (by simp only [go_sem, Nat.reduceAdd, Nat.reduceSub, Nat.reduceMul, Nat.reduceEqDiff, Nat.reduceBEq, Nat.reduceBNe, Nat.reduceLT, Nat.reduceLeDiff, Int.reduceNeg, Int.reduceAdd, Int.reduceSub, Int.reduceMul, Int.reduceEq, Int.reduceLT, Int.reduceLE, Int.reduceToNat, reduceIte, reduceCtorEq]) ?_
          simp only [go_sem, Nat.reduceAdd, Nat.reduceSub, Nat.reduceMul, Nat.reduceEqDiff, Nat.reduceBEq, Nat.reduceBNe, Nat.reduceLT, Nat.reduceLeDiff, Int.reduceNeg, Int.reduceAdd, Int.reduceSub, Int.reduceMul, Int.reduceEq, Int.reduceLT, Int.reduceLE, Int.reduceToNat, reduceIte, reduceCtorEq, List.set]
          refine callM.use ((ok127 (Cur.mk c.b i3 e3) u1 2)) ?_
          rintro _ _ ⟨k, i4, e4, rfl, s1, s2, s3, s4, rfl⟩
          simp only [go_sem, Nat.reduceAdd, Nat.reduceSub, Nat.reduceMul, Nat.reduceEqDiff, Nat.reduceBEq, Nat.reduceBNe, Nat.reduceLT, Nat.reduceLeDiff, Int.reduceNeg, Int.reduceAdd, Int.reduceSub, Int.reduceMul, Int.reduceEq, Int.reduceLT, Int.reduceLE, Int.reduceToNat, reduceIte, reduceCtorEq]
        repeat' first | refine And.intro ?_ ?_ | intro _
        all_goals
          refine call_mut 0 0 rfl rfl rfl (by simp only [go_sem, Nat.reduceAdd, Nat.reduceSub, Nat.reduceMul, Nat.reduceEqDiff, Nat.reduceBEq, Nat.reduceBNe, Nat.reduceLT, Nat.reduceLeDiff, Int.reduceNeg, Int.reduceAdd, Int.reduceSub, Int.reduceMul, Int.reduceEq, Int.reduceLT, Int.reduceLE, Int.reduceToNat, reduceIte, reduceCtorEq]) ?_
          simp only [go_sem, Nat.reduceAdd, Nat.reduceSub, Nat.reduceMul, Nat.reduceEqDiff, Nat.reduceBEq, Nat.reduceBNe, Nat.reduceLT, Nat.reduceLeDiff, Int.reduceNeg, Int.reduceAdd, Int.reduceSub, Int.reduceMul, Int.reduceEq, Int.reduceLT, Int.reduceLE, Int.reduceToNat, reduceIte, reduceCtorEq, List.set]
          refine callM.use ((ok127 (Cur.mk c.b i4 e4) s4 9)) ?_
          rintro _ _ ⟨m, i5, e5, rfl, v1, v2, v3, v4, rfl⟩
          simp only [go_sem, Nat.reduceAdd, Nat.reduceSub, Nat.reduceMul, Nat.reduceEqDiff, Nat.reduceBEq, Nat.reduceBNe, Nat.reduceLT, Nat.reduceLeDiff, Int.reduceNeg, Int.reduceAdd, Int.reduceSub, Int.reduceMul, Int.reduceEq, Int.reduceLT, Int.reduceLE, Int.reduceToNat, reduceIte, reduceCtorEq]
          have v5 := v2 (by omega)
          have hw : IntKind.i64.wrap (1 + m) = 1 + m := wrap64 (by omega) (by omega)
          simp only [go_sem, Nat.reduceAdd, Nat.reduceSub, Nat.reduceMul, Nat.reduceEqDiff, Nat.reduceBEq, Nat.reduceBNe, Nat.reduceLT, Nat.reduceLeDiff, Int.reduceNeg, Int.reduceAdd, Int.reduceSub, Int.reduceMul, Int.reduceEq, Int.reduceLT, Int.reduceLE, Int.reduceToNat, reduceIte, reduceCtorEq, hw]
        repeat' first | refine And.intro ?_ ?_ | intro _
        all_goals
          refine call_lend ?_
          simp only [go_sem, Nat.reduceAdd, Nat.reduceSub, Nat.reduceMul, Nat.reduceEqDiff, Nat.reduceBEq, Nat.reduceBNe, Nat.reduceLT, Nat.reduceLeDiff, Int.reduceNeg, Int.reduceAdd, Int.reduceSub, Int.reduceMul, Int.reduceEq, Int.reduceLT, Int.reduceLE, Int.reduceToNat, reduceIte, reduceCtorEq]
          refine callN.eq (ok35 (1 + m) (⟨#[116]⟩ : ByteArray)) (by simp only [go_sem, Nat.reduceAdd, Nat.reduceSub, Nat.reduceMul, Nat.reduceEqDiff, Nat.reduceBEq, Nat.reduceBNe, Nat.reduceLT, Nat.reduceLeDiff, Int.reduceNeg, Int.reduceAdd, Int.reduceSub, Int.reduceMul, Int.reduceEq, Int.reduceLT, Int.reduceLE, Int.reduceToNat, reduceIte, reduceCtorEq]) ?_
          simp only [go_sem, Nat.reduceAdd, Nat.reduceSub, Nat.reduceMul, Nat.reduceEqDiff, Nat.reduceBEq, Nat.reduceBNe, Nat.reduceLT, Nat.reduceLeDiff, Int.reduceNeg, Int.reduceAdd, Int.reduceSub, Int.reduceMul, Int.reduceEq, Int.reduceLT, Int.reduceLE, Int.reduceToNat, reduceIte, reduceCtorEq]
        repeat' first | refine And.intro ?_ ?_ | intro _
        all_goals
          refine call_mut 0 0 rfl rfl rfl (by simp only [go_sem, Nat.reduceAdd, Nat.reduceSub, Nat.reduceMul, Nat.reduceEqDiff, Nat.reduceBEq, Nat.reduceBNe, Nat.reduceLT, Nat.reduceLeDiff, Int.reduceNeg, Int.reduceAdd, Int.reduceSub, Int.reduceMul, Int.reduceEq, Int.reduceLT, Int.reduceLE, Int.reduceToNat, reduceIte, reduceCtorEq]) ?_
          simp only [go_sem, Nat.reduceAdd, Nat.reduceSub, Nat.reduceMul, Nat.reduceEqDiff, Nat.reduceBEq, Nat.reduceBNe, Nat.reduceLT, Nat.reduceLeDiff, Int.reduceNeg, Int.reduceAdd, Int.reduceSub, Int.reduceMul, Int.reduceEq, Int.reduceLT, Int.reduceLE, Int.reduceToNat, reduceIte, reduceCtorEq, List.set]
          refine callM.use ((ok127 (Cur.mk c.b i5 e5) v4 3)) ?_
          rintro _ _ ⟨j, i6, e6, rfl, w1, w2, w3, w4, rfl⟩
          simp only [go_sem, Nat.reduceAdd, Nat.reduceSub, Nat.reduceMul, Nat.reduceEqDiff, Nat.reduceBEq, Nat.reduceBNe, Nat.reduceLT, Nat.reduceLeDiff, Int.reduceNeg, Int.reduceAdd, Int.reduceSub, Int.reduceMul, Int.reduceEq, Int.reduceLT, Int.reduceLE, Int.reduceToNat, reduceIte, reduceCtorEq]
          have w5 := w2 (by omega)
          rcases (show j = 0 ∨ j = 1 ∨ j = 2 by omega) with rfl | rfl | rfl
        all_goals
          simp only [go_sem, Nat.reduceAdd, Nat.reduceSub, Nat.reduceMul, Nat.reduceEqDiff, Nat.reduceBEq, Nat.reduceBNe, Nat.reduceLT, Nat.reduceLeDiff, Int.reduceNeg, Int.reduceAdd, Int.reduceSub, Int.reduceMul, Int.reduceEq, Int.reduceLT, Int.reduceLE, Int.reduceToNat, reduceIte, reduceCtorEq]
        repeat' first | refine And.intro ?_ ?_ | intro _
        all_goals first | omega | skip
        all_goals
          refine call_lend ?_
          simp only [go_sem, Nat.reduceAdd, Nat.reduceSub, Nat.reduceMul, Nat.reduceEqDiff, Nat.reduceBEq, Nat.reduceBNe, Nat.reduceLT, Nat.reduceLeDiff, Int.reduceNeg, Int.reduceAdd, Int.reduceSub, Int.reduceMul, Int.reduceEq, Int.reduceLT, Int.reduceLE, Int.reduceToNat, reduceIte, reduceCtorEq]
          refine callN.eq (ok206 d hs k _) (by simp only [go_sem, Nat.reduceAdd, Nat.reduceSub, Nat.reduceMul, Nat.reduceEqDiff, Nat.reduceBEq, Nat.reduceBNe, Nat.reduceLT, Nat.reduceLeDiff, Int.reduceNeg, Int.reduceAdd, Int.reduceSub, Int.reduceMul, Int.reduceEq, Int.reduceLT, Int.reduceLE, Int.reduceToNat, reduceIte, reduceCtorEq]) ?_
          simp only [go_sem, Nat.reduceAdd, Nat.reduceSub, Nat.reduceMul, Nat.reduceEqDiff, Nat.reduceBEq, Nat.reduceBNe, Nat.reduceLT, Nat.reduceLeDiff, Int.reduceNeg, Int.reduceAdd, Int.reduceSub, Int.reduceMul, Int.reduceEq, Int.reduceLT, Int.reduceLE, Int.reduceToNat, reduceIte, reduceCtorEq]
          try simp only [go_sem, Nat.reduceAdd, Nat.reduceSub, Nat.reduceMul, Nat.reduceEqDiff, Nat.reduceBEq, Nat.reduceBNe, Nat.reduceLT, Nat.reduceLeDiff, Int.reduceNeg, Int.reduceAdd, Int.reduceSub, Int.reduceMul, Int.reduceEq, Int.reduceLT, Int.reduceLE, Int.reduceToNat, reduceIte, reduceCtorEq]
          exact ⟨_, _, _, ⟨rfl, rfl⟩, Dev.lay_ok r1 _ _, w4, rfl, rfl⟩
      · simp only [go_sem, Nat.reduceAdd, Nat.reduceSub, Nat.reduceMul, Nat.reduceEqDiff, Nat.reduceBEq, Nat.reduceBNe, Nat.reduceLT, Nat.reduceLeDiff, Int.reduceNeg, Int.reduceAdd, Int.reduceSub, Int.reduceMul, Int.reduceEq, Int.reduceLT, Int.reduceLE, Int.reduceToNat, reduceIte, reduceCtorEq]
        exact ⟨_, _, _, ⟨rfl, rfl⟩, r1, u1, rfl, rfl⟩
end Go.VS

set_option linter.unusedSimpArgs false
set_option linter.unusedVariables false
open Go.Proofs
set_option maxRecDepth 20000
namespace Go.VS
theorem f125_at : gz.P.funcs[125]? = some Tryz.f125 := by
  have h : Tryz.prog.funcs[125]? = some Tryz.f125 := by kernel_rfl
  exact h
theorem f29_at : gz.P.funcs[29]? = some Tryz.f29 := by
  have h : Tryz.prog.funcs[29]? = some Tryz.f29 := by kernel_rfl
  exact h
theorem f31_at : gz.P.funcs[31]? = some Tryz.f31 := by
  have h : Tryz.prog.funcs[31]? = some Tryz.f31 := by kernel_rfl
  exact h
theorem f27_at : gz.P.funcs[27]? = some Tryz.f27 := by
  have h : Tryz.prog.funcs[27]? = some Tryz.f27 := by kernel_rfl
  exact h
theorem f24_at : gz.P.funcs[24]? = some Tryz.f24 := by
  have h : Tryz.prog.funcs[24]? = some Tryz.f24 := by kernel_rfl
  exact h
theorem f25_at : gz.P.funcs[25]? = some Tryz.f25 := by
  have h : Tryz.prog.funcs[25]? = some Tryz.f25 := by kernel_rfl
  exact h
theorem ok125 (c : Cur) (hc : 0 ≤ c.i) : VCalls gz 125 [.ptr true c.enc] (some 0) (fun y x' => ∃ d i h, y = Dev.enc true d ∧ d.small ∧ 0 ≤ i ∧ x' = (Cur.mk c.b i h).enc) := by
  refine VCalls.go (nt := 17) (keep := [0, 2, 3, 5, 11]) (muts := [0]) (mvs := [6]) [(5, .tree false (.take 0 (.all (.cons 1 (.all (.cons 2 (.take 3 (.all (.cons 4 .done .nil))) .nil)) (.cons 2 (.all (.cons 1 (.take 3 (.all (.cons 4 .done .nil))) .nil)) .nil)))))] f125_at rfl (by kernel_rfl) rfl (by kernel_rfl) rfl (fun i h => by cases h; exact ⟨rfl, by simp⟩) rfl ?_
  intro hok
  simp only [go_sem, Nat.reduceAdd, Nat.reduceSub, Nat.reduceMul, Nat.reduceEqDiff, Nat.reduceBEq, Nat.reduceBNe, Nat.reduceLT, Nat.reduceLeDiff, Int.reduceNeg, Int.reduceAdd, Int.reduceSub, Int.reduceMul, Int.reduceEq, Int.reduceLT, Int.reduceLE, Int.reduceToNat, reduceIte, reduceCtorEq] at hok
  simp only [Tryz.f125, Func.code, Option.getD_some]
  simp only [go_sem, Nat.reduceAdd, Nat.reduceSub, Nat.reduceMul, Nat.reduceEqDiff, Nat.reduceBEq, Nat.reduceBNe, Nat.reduceLT, Nat.reduceLeDiff, Int.reduceNeg, Int.reduceAdd, Int.reduceSub, Int.reduceMul, Int.reduceEq, Int.reduceLT, Int.reduceLE, Int.reduceToNat, reduceIte, reduceCtorEq]
  refine call_mut 0 0 rfl rfl rfl (by simp only [go_sem, Nat.reduceAdd, Nat.reduceSub, Nat.reduceMul, Nat.reduceEqDiff, Nat.reduceBEq, Nat.reduceBNe, Nat.reduceLT, Nat.reduceLeDiff, Int.reduceNeg, Int.reduceAdd, Int.reduceSub, Int.reduceMul, Int.reduceEq, Int.reduceLT, Int.reduceLE, Int.reduceToNat, reduceIte, reduceCtorEq]) ?_
  simp only [go_sem, Nat.reduceAdd, Nat.reduceSub, Nat.reduceMul, Nat.reduceEqDiff, Nat.reduceBEq, Nat.reduceBNe, Nat.reduceLT, Nat.reduceLeDiff, Int.reduceNeg, Int.reduceAdd, Int.reduceSub, Int.reduceMul, Int.reduceEq, Int.reduceLT, Int.reduceLE, Int.reduceToNat, reduceIte, reduceCtorEq, List.set]
  refine callM.use ((ok126 c hc 8)) ?_
  rintro _ _ ⟨u, i1, e1, rfl, u1, rfl⟩
  simp only [go_sem, Nat.reduceAdd, Nat.reduceSub, Nat.reduceMul, Nat.reduceEqDiff, Nat.reduceBEq, Nat.reduceBNe, Nat.reduceLT, Nat.reduceLeDiff, Int.reduceNeg, Int.reduceAdd, Int.reduceSub, Int.reduceMul, Int.reduceEq, Int.reduceLT, Int.reduceLE, Int.reduceToNat, reduceIte, reduceCtorEq]
  first | refine branch_ndec (fun h => ?_) (fun h => ?_) | refine branch_dec (fun h => ?_) (fun h => ?_) | refine branch_nbool (fun h => ?_) (fun h => ?_) | refine branch_split (fun h => ?_) (fun h => ?_)
  · simp only [go_sem, Nat.reduceAdd, Nat.reduceSub, Nat.reduceMul, Nat.reduceEqDiff, Nat.reduceBEq, Nat.reduceBNe, Nat.reduceLT, Nat.reduceLeDiff, Int.reduceNeg, Int.reduceAdd, Int.reduceSub, Int.reduceMul, Int.reduceEq, Int.reduceLT, Int.reduceLE, Int.reduceToNat, reduceIte, reduceCtorEq]
    refine call_mut 0 0 rfl rfl rfl (by simp only [go_sem, Nat.reduceAdd, Nat.reduceSub, Nat.reduceMul, Nat.reduceEqDiff, Nat.reduceBEq, Nat.reduceBNe, Nat.reduceLT, Nat.reduceLeDiff, Int.reduceNeg, Int.reduceAdd, Int.reduceSub, Int.reduceMul, Int.reduceEq, Int.reduceLT, Int.reduceLE, Int.reduceToNat, reduceIte, reduceCtorEq]) ?_
    simp only [go_sem, Nat.reduceAdd, Nat.reduceSub, Nat.reduceMul, Nat.reduceEqDiff, Nat.reduceBEq, Nat.reduceBNe, Nat.reduceLT, Nat.reduceLeDiff, Int.reduceNeg, Int.reduceAdd, Int.reduceSub, Int.reduceMul, Int.reduceEq, Int.reduceLT, Int.reduceLE, Int.reduceToNat, reduceIte, reduceCtorEq, List.set]
    refine callM.use ((ok213 (Cur.mk c.b i1 e1) u1)) ?_
    rintro _ _ ⟨d, i2, e2, rfl, p1, p2, p3, rfl⟩
    simp only [go_sem, Nat.reduceAdd, Nat.reduceSub, Nat.reduceMul, Nat.reduceEqDiff, Nat.reduceBEq, Nat.reduceBNe, Nat.reduceLT, Nat.reduceLeDiff, Int.reduceNeg, Int.reduceAdd, Int.reduceSub, Int.reduceMul, Int.reduceEq, Int.reduceLT, Int.reduceLE, Int.reduceToNat, reduceIte, reduceCtorEq]
    exact ⟨_, _, _, ⟨rfl, rfl⟩, ⟨by omega, by omega⟩, p3, rfl, rfl⟩
  · simp only [go_sem, Nat.reduceAdd, Nat.reduceSub, Nat.reduceMul, Nat.reduceEqDiff, Nat.reduceBEq, Nat.reduceBNe, Nat.reduceLT, Nat.reduceLeDiff, Int.reduceNeg, Int.reduceAdd, Int.reduceSub, Int.reduceMul, Int.reduceEq, Int.reduceLT, Int.reduceLE, Int.reduceToNat, reduceIte, reduceCtorEq]
    refine call_mut 0 0 rfl rfl rfl (by simp only [go_sem, Nat.reduceAdd, Nat.reduceSub, Nat.reduceMul, Nat.reduceEqDiff, Nat.reduceBEq, Nat.reduceBNe, Nat.reduceLT, Nat.reduceLeDiff, Int.reduceNeg, Int.reduceAdd, Int.reduceSub, Int.reduceMul, Int.reduceEq, Int.reduceLT, Int.reduceLE, Int.reduceToNat, reduceIte, reduceCtorEq]) ?_
    simp only [go_sem, Nat.reduceAdd, Nat.reduceSub, Nat.reduceMul, Nat.reduceEqDiff, Nat.reduceBEq, Nat.reduceBNe, Nat.reduceLT, Nat.reduceLeDiff, Int.reduceNeg, Int.reduceAdd, Int.reduceSub, Int.reduceMul, Int.reduceEq, Int.reduceLT, Int.reduceLE, Int.reduceToNat, reduceIte, reduceCtorEq, List.set]
    refine callM.use ((ok214 (Cur.mk c.b i1 e1) u1)) ?_
    rintro _ _ ⟨d, i2, e2, rfl, p1, p2, rfl⟩
    simp only [go_sem, Nat.reduceAdd, Nat.reduceSub, Nat.reduceMul, Nat.reduceEqDiff, Nat.reduceBEq, Nat.reduceBNe, Nat.reduceLT, Nat.reduceLeDiff, Int.reduceNeg, Int.reduceAdd, Int.reduceSub, Int.reduceMul, Int.reduceEq, Int.reduceLT, Int.reduceLE, Int.reduceToNat, reduceIte, reduceCtorEq]
    refine call_mut 0 0 rfl rfl rfl (by simp only [go_sem, Nat.reduceAdd, Nat.reduceSub, Nat.reduceMul, Nat.reduceEqDiff, Nat.reduceBEq, Nat.reduceBNe, Nat.reduceLT, Nat.reduceLeDiff, Int.reduceNeg, Int.reduceAdd, Int.reduceSub, Int.reduceMul, Int.reduceEq, Int.reduceLT, Int.reduceLE, Int.reduceToNat, reduceIte, reduceCtorEq]) ?_
    simp only [go_sem, Nat.reduceAdd, Nat.reduceSub, Nat.reduceMul, Nat.reduceEqDiff, Nat.reduceBEq, Nat.reduceBNe, Nat.reduceLT, Nat.reduceLeDiff, Int.reduceNeg, Int.reduceAdd, Int.reduceSub, Int.reduceMul, Int.reduceEq, Int.reduceLT, Int.reduceLE, Int.reduceToNat, reduceIte, reduceCtorEq, List.set]
    refine callM.use ((ok126 (Cur.mk c.b i2 e2) p2 16)) ?_
    rintro _ _ ⟨v, i3, e3, rfl, v1, rfl⟩
    simp only [go_sem, Nat.reduceAdd, Nat.reduceSub, Nat.reduceMul, Nat.reduceEqDiff, Nat.reduceBEq, Nat.reduceBNe, Nat.reduceLT, Nat.reduceLeDiff, Int.reduceNeg, Int.reduceAdd, Int.reduceSub, Int.reduceMul, Int.reduceEq, Int.reduceLT, Int.reduceLE, Int.reduceToNat, reduceIte, reduceCtorEq]
    have hs := Dev.ok_small p1
    first | refine branch_ndec (fun h2 => ?_) (fun h2 => ?_) | refine branch_dec (fun h2 => ?_) (fun h2 => ?_) | refine branch_nbool (fun h2 => ?_) (fun h2 => ?_) | refine branch_split (fun h2 => ?_) (fun h2 => ?_)
    · simp only [go_sem, Nat.reduceAdd, Nat.reduceSub, Nat.reduceMul, Nat.reduceEqDiff, Nat.reduceBEq, Nat.reduceBNe, Nat.reduceLT, Nat.reduceLeDiff, Int.reduceNeg, Int.reduceAdd, Int.reduceSub, Int.reduceMul, Int.reduceEq, Int.reduceLT, Int.reduceLE, Int.reduceToNat, reduceIte, reduceCtorEq]
      have z1 : (0 : Int) < (d.secs.length : Int) := by omega
      have z2 : 0 < d.secs.length := by omega
      repeat' first | refine And.intro ?_ ?_ | intro _
      all_goals
        refine call_lend ?_
        simp only [go_sem, Nat.reduceAdd, Nat.reduceSub, Nat.reduceMul, Nat.reduceEqDiff, Nat.reduceBEq, Nat.reduceBNe, Nat.reduceLT, Nat.reduceLeDiff, Int.reduceNeg, Int.reduceAdd, Int.reduceSub, Int.reduceMul, Int.reduceEq, Int.reduceLT, Int.reduceLE, Int.reduceToNat, reduceIte, reduceCtorEq]
        refine callN.eq (ok35 1000000 (⟨#[116, 111, 112]⟩ : ByteArray)) (by simp only [go_sem, Nat.reduceAdd, Nat.reduceSub, Nat.reduceMul, Nat.reduceEqDiff, Nat.reduceBEq, Nat.reduceBNe, Nat.reduceLT, Nat.reduceLeDiff, Int.reduceNeg, Int.reduceAdd, Int.reduceSub, Int.reduceMul, Int.reduceEq, Int.reduceLT, Int.reduceLE, Int.reduceToNat, reduceIte, reduceCtorEq]) ?_
        simp only [go_sem, Nat.reduceAdd, Nat.reduceSub, Nat.reduceMul, Nat.reduceEqDiff, Nat.reduceBEq, Nat.reduceBNe, Nat.reduceLT, Nat.reduceLeDiff, Int.reduceNeg, Int.reduceAdd, Int.reduceSub, Int.reduceMul, Int.reduceEq, Int.reduceLT, Int.reduceLE, Int.reduceToNat, reduceIte, reduceCtorEq]
        simp only [go_sem, Nat.reduceAdd, Nat.reduceSub, Nat.reduceMul, Nat.reduceEqDiff, Nat.reduceBEq, Nat.reduceBNe, Nat.reduceLT, Nat.reduceLeDiff, Int.reduceNeg, Int.reduceAdd, Int.reduceSub, Int.reduceMul, Int.reduceEq, Int.reduceLT, Int.reduceLE, Int.reduceToNat, reduceIte, reduceCtorEq, z1, z2]
      repeat' first | refine And.intro ?_ ?_ | intro _
      all_goals
        refine ⟨(⟨d.secs.set 0 (slotS 1000000 ⟨#[116, 111, 112]⟩), d.late⟩ : Dev), _, _, ⟨?_, rfl⟩, ?_, v1, rfl, rfl⟩
      all_goals first
        | rfl
        | exact ⟨by simp only [List.length_set]; omega, by simp only; omega⟩
    · simp only [go_sem, Nat.reduceAdd, Nat.reduceSub, Nat.reduceMul, Nat.reduceEqDiff, Nat.reduceBEq, Nat.reduceBNe, Nat.reduceLT, Nat.reduceLeDiff, Int.reduceNeg, Int.reduceAdd, Int.reduceSub, Int.reduceMul, Int.reduceEq, Int.reduceLT, Int.reduceLE, Int.reduceToNat, reduceIte, reduceCtorEq]
      exact ⟨_, _, _, ⟨rfl, rfl⟩, hs.1, v1, rfl, rfl⟩
theorem ok29 (l : List UInt8) : VCalls gz 29 [.lst false 1 (l.map byteA)] none (fun y _ => ∃ n t, y = .tup [.lit (.int .i64 n), .lit (.string t)] ∧ t.size ≤ 400) := by
  refine VCalls.go (nt := 29) (keep := [0, 2, 3, 4, 5, 12, 19]) (muts := []) (mvs := []) [(6, .tree false (.take 0 (.take 1 (.all (.cons 2 (.take 3 (.all (.cons 4 (.all (.cons 5 (.all (.cons 6 (.all (.cons 7 .done .nil)) .nil)) (.cons 6 (.all (.cons 5 (.all (.cons 7 .done .nil)) .nil)) .nil))) (.cons 6 (.all (.cons 4 (.all (.cons 5 (.all (.cons 7 .done .nil)) .nil)) .nil)) .nil)))) .nil)))))] f29_at rfl (by kernel_rfl) rfl (by kernel_rfl) rfl (fun i h => by cases h) rfl ?_
  intro hok
  simp only [go_sem, Nat.reduceAdd, Nat.reduceSub, Nat.reduceMul, Nat.reduceEqDiff, Nat.reduceBEq, Nat.reduceBNe, Nat.reduceLT, Nat.reduceLeDiff, Int.reduceNeg, Int.reduceAdd, Int.reduceSub, Int.reduceMul, Int.reduceEq, Int.reduceLT, Int.reduceLE, Int.reduceToNat, reduceIte, reduceCtorEq] at hok
  simp only [Tryz.f29, Func.code, Option.getD_some]
  simp only [go_sem, Nat.reduceAdd, Nat.reduceSub, Nat.reduceMul, Nat.reduceEqDiff, Nat.reduceBEq, Nat.reduceBNe, Nat.reduceLT, Nat.reduceLeDiff, Int.reduceNeg, Int.reduceAdd, Int.reduceSub, Int.reduceMul, Int.reduceEq, Int.reduceLT, Int.reduceLE, Int.reduceToNat, reduceIte, reduceCtorEq]
  refine call_share ?_
  simp only [go_sem, Nat.reduceAdd, Nat.reduceSub, Nat.reduceMul, Nat.reduceEqDiff, Nat.reduceBEq, Nat.reduceBNe, Nat.reduceLT, Nat.reduceLeDiff, Int.reduceNeg, Int.reduceAdd, Int.reduceSub, Int.reduceMul, Int.reduceEq, Int.reduceLT, Int.reduceLE, Int.reduceToNat, reduceIte, reduceCtorEq]
  refine callS.use (ok124 l) ?_
  rintro _ _ ⟨h0, rfl⟩
  simp only [go_sem, Nat.reduceAdd, Nat.reduceSub, Nat.reduceMul, Nat.reduceEqDiff, Nat.reduceBEq, Nat.reduceBNe, Nat.reduceLT, Nat.reduceLeDiff, Int.reduceNeg, Int.reduceAdd, Int.reduceSub, Int.reduceMul, Int.reduceEq, Int.reduceLT, Int.reduceLE, Int.reduceToNat, reduceIte, reduceCtorEq]
  refine call_mut 0 4 rfl rfl rfl (by simp only [go_sem, Nat.reduceAdd, Nat.reduceSub, Nat.reduceMul, Nat.reduceEqDiff, Nat.reduceBEq, Nat.reduceBNe, Nat.reduceLT, Nat.reduceLeDiff, Int.reduceNeg, Int.reduceAdd, Int.reduceSub, Int.reduceMul, Int.reduceEq, Int.reduceLT, Int.reduceLE, Int.reduceToNat, reduceIte, reduceCtorEq]) ?_
  simp only [go_sem, Nat.reduceAdd, Nat.reduceSub, Nat.reduceMul, Nat.reduceEqDiff, Nat.reduceBEq, Nat.reduceBNe, Nat.reduceLT, Nat.reduceLeDiff, Int.reduceNeg, Int.reduceAdd, Int.reduceSub, Int.reduceMul, Int.reduceEq, Int.reduceLT, Int.reduceLE, Int.reduceToNat, reduceIte, reduceCtorEq, List.set]
  refine callM.use ((ok127 (Cur.mk l 0 h0) (Int.le_refl _) 20)) ?_
  rintro _ _ ⟨n, i1, e1, rfl, p1, p2, p3, p4, rfl⟩
  simp only [go_sem, Nat.reduceAdd, Nat.reduceSub, Nat.reduceMul, Nat.reduceEqDiff, Nat.reduceBEq, Nat.reduceBNe, Nat.reduceLT, Nat.reduceLeDiff, Int.reduceNeg, Int.reduceAdd, Int.reduceSub, Int.reduceMul, Int.reduceEq, Int.reduceLT, Int.reduceLE, Int.reduceToNat, reduceIte, reduceCtorEq]
  have p5 := p2 (by omega)
  have hw : IntKind.i64.wrap (1 + n) = 1 + n := wrap64 (by omega) (by omega)
  simp only [go_sem, Nat.reduceAdd, Nat.reduceSub, Nat.reduceMul, Nat.reduceEqDiff, Nat.reduceBEq, Nat.reduceBNe, Nat.reduceLT, Nat.reduceLeDiff, Int.reduceNeg, Int.reduceAdd, Int.reduceSub, Int.reduceMul, Int.reduceEq, Int.reduceLT, Int.reduceLE, Int.reduceToNat, reduceIte, reduceCtorEq, hw]
  refine call_mut 0 4 rfl rfl rfl (by simp only [go_sem, Nat.reduceAdd, Nat.reduceSub, Nat.reduceMul, Nat.reduceEqDiff, Nat.reduceBEq, Nat.reduceBNe, Nat.reduceLT, Nat.reduceLeDiff, Int.reduceNeg, Int.reduceAdd, Int.reduceSub, Int.reduceMul, Int.reduceEq, Int.reduceLT, Int.reduceLE, Int.reduceToNat, reduceIte, reduceCtorEq]) ?_
  simp only [go_sem, Nat.reduceAdd, Nat.reduceSub, Nat.reduceMul, Nat.reduceEqDiff, Nat.reduceBEq, Nat.reduceBNe, Nat.reduceLT, Nat.reduceLeDiff, Int.reduceNeg, Int.reduceAdd, Int.reduceSub, Int.reduceMul, Int.reduceEq, Int.reduceLT, Int.reduceLE, Int.reduceToNat, reduceIte, reduceCtorEq, List.set]
  refine callM.use ((ok126 (Cur.mk l i1 e1) p4 8)) ?_
  rintro _ _ ⟨u, i2, e2, rfl, u1, rfl⟩
  simp only [go_sem, Nat.reduceAdd, Nat.reduceSub, Nat.reduceMul, Nat.reduceEqDiff, Nat.reduceBEq, Nat.reduceBNe, Nat.reduceLT, Nat.reduceLeDiff, Int.reduceNeg, Int.reduceAdd, Int.reduceSub, Int.reduceMul, Int.reduceEq, Int.reduceLT, Int.reduceLE, Int.reduceToNat, reduceIte, reduceCtorEq]
  first | refine branch_ndec (fun h => ?_) (fun h => ?_) | refine branch_dec (fun h => ?_) (fun h => ?_) | refine branch_nbool (fun h => ?_) (fun h => ?_) | refine branch_split (fun h => ?_) (fun h => ?_)
  · simp only [go_sem, Nat.reduceAdd, Nat.reduceSub, Nat.reduceMul, Nat.reduceEqDiff, Nat.reduceBEq, Nat.reduceBNe, Nat.reduceLT, Nat.reduceLeDiff, Int.reduceNeg, Int.reduceAdd, Int.reduceSub, Int.reduceMul, Int.reduceEq, Int.reduceLT, Int.reduceLE, Int.reduceToNat, reduceIte, reduceCtorEq]
    refine call_mut 0 4 rfl rfl rfl (by simp only [go_sem, Nat.reduceAdd, Nat.reduceSub, Nat.reduceMul, Nat.reduceEqDiff, Nat.reduceBEq, Nat.reduceBNe, Nat.reduceLT, Nat.reduceLeDiff, Int.reduceNeg, Int.reduceAdd, Int.reduceSub, Int.reduceMul, Int.reduceEq, Int.reduceLT, Int.reduceLE, Int.reduceToNat, reduceIte, reduceCtorEq]) ?_
    simp only [go_sem, Nat.reduceAdd, Nat.reduceSub, Nat.reduceMul, Nat.reduceEqDiff, Nat.reduceBEq, Nat.reduceBNe, Nat.reduceLT, Nat.reduceLeDiff, Int.reduceNeg, Int.reduceAdd, Int.reduceSub, Int.reduceMul, Int.reduceEq, Int.reduceLT, Int.reduceLE, Int.reduceToNat, reduceIte, reduceCtorEq, List.set]
    refine callM.use ((ok127 (Cur.mk l i2 e2) u1 4)) ?_
    rintro _ _ ⟨k, i3, e3, rfl, k1, k2, k3, k4, rfl⟩
    simp only [go_sem, Nat.reduceAdd, Nat.reduceSub, Nat.reduceMul, Nat.reduceEqDiff, Nat.reduceBEq, Nat.reduceBNe, Nat.reduceLT, Nat.reduceLeDiff, Int.reduceNeg, Int.reduceAdd, Int.reduceSub, Int.reduceMul, Int.reduceEq, Int.reduceLT, Int.reduceLE, Int.reduceToNat, reduceIte, reduceCtorEq]
    have k5 := k2 (by omega)
    rcases (show k = 0 ∨ k = 1 ∨ k = 2 ∨ k = 3 by omega) with rfl | rfl | rfl | rfl
    all_goals
      simp only [go_sem, Nat.reduceAdd, Nat.reduceSub, Nat.reduceMul, Nat.reduceEqDiff, Nat.reduceBEq, Nat.reduceBNe, Nat.reduceLT, Nat.reduceLeDiff, Int.reduceNeg, Int.reduceAdd, Int.reduceSub, Int.reduceMul, Int.reduceEq, Int.reduceLT, Int.reduceLE, Int.reduceToNat, reduceIte, reduceCtorEq]
      refine ⟨by omega, ?_⟩
      refine call_mut 0 4 rfl rfl rfl (by simp only [go_sem, Nat.reduceAdd, Nat.reduceSub, Nat.reduceMul, Nat.reduceEqDiff, Nat.reduceBEq, Nat.reduceBNe, Nat.reduceLT, Nat.reduceLeDiff, Int.reduceNeg, Int.reduceAdd, Int.reduceSub, Int.reduceMul, Int.reduceEq, Int.reduceLT, Int.reduceLE, Int.reduceToNat, reduceIte, reduceCtorEq]) ?_
      simp only [go_sem, Nat.reduceAdd, Nat.reduceSub, Nat.reduceMul, Nat.reduceEqDiff, Nat.reduceBEq, Nat.reduceBNe, Nat.reduceLT, Nat.reduceLeDiff, Int.reduceNeg, Int.reduceAdd, Int.reduceSub, Int.reduceMul, Int.reduceEq, Int.reduceLT, Int.reduceLE, Int.reduceToNat, reduceIte, reduceCtorEq, List.set]
      refine callM.use ((ok126 (Cur.mk l i3 e3) k4 12)) ?_
      rintro _ _ ⟨v, i4, e4, rfl, v1, rfl⟩
      simp only [go_sem, Nat.reduceAdd, Nat.reduceSub, Nat.reduceMul, Nat.reduceEqDiff, Nat.reduceBEq, Nat.reduceBNe, Nat.reduceLT, Nat.reduceLeDiff, Int.reduceNeg, Int.reduceAdd, Int.reduceSub, Int.reduceMul, Int.reduceEq, Int.reduceLT, Int.reduceLE, Int.reduceToNat, reduceIte, reduceCtorEq]
      first | refine branch_ndec (fun h2 => ?_) (fun h2 => ?_) | refine branch_dec (fun h2 => ?_) (fun h2 => ?_) | refine branch_nbool (fun h2 => ?_) (fun h2 => ?_) | refine branch_split (fun h2 => ?_) (fun h2 => ?_)
      · simp only [go_sem, Nat.reduceAdd, Nat.reduceSub, Nat.reduceMul, Nat.reduceEqDiff, Nat.reduceBEq, Nat.reduceBNe, Nat.reduceLT, Nat.reduceLeDiff, Int.reduceNeg, Int.reduceAdd, Int.reduceSub, Int.reduceMul, Int.reduceEq, Int.reduceLT, Int.reduceLE, Int.reduceToNat, reduceIte, reduceCtorEq]
        repeat' first | refine And.intro ?_ ?_ | intro _
        all_goals
          refine call_mut 0 4 rfl rfl rfl (by simp only [go_sem, Nat.reduceAdd, Nat.reduceSub, Nat.reduceMul, Nat.reduceEqDiff, Nat.reduceBEq, Nat.reduceBNe, Nat.reduceLT, Nat.reduceLeDiff, Int.reduceNeg, Int.reduceAdd, Int.reduceSub, Int.reduceMul, Int.reduceEq, Int.reduceLT, Int.reduceLE, Int.reduceToNat, reduceIte, reduceCtorEq]) ?_
          simp only [go_sem, Nat.reduceAdd, Nat.reduceSub, Nat.reduceMul, Nat.reduceEqDiff, Nat.reduceBEq, Nat.reduceBNe, Nat.reduceLT, Nat.reduceLeDiff, Int.reduceNeg, Int.reduceAdd, Int.reduceSub, Int.reduceMul, Int.reduceEq, Int.reduceLT, Int.reduceLE, Int.reduceToNat, reduceIte, reduceCtorEq, List.set]
          refine callM.use ((ok127 (Cur.mk l i4 e4) v1 2)) ?_
          rintro _ _ ⟨w, i5, e5, rfl, w1, w2, w3, w4, rfl⟩
          simp only [go_sem, Nat.reduceAdd, Nat.reduceSub, Nat.reduceMul, Nat.reduceEqDiff, Nat.reduceBEq, Nat.reduceBNe, Nat.reduceLT, Nat.reduceLeDiff, Int.reduceNeg, Int.reduceAdd, Int.reduceSub, Int.reduceMul, Int.reduceEq, Int.reduceLT, Int.reduceLE, Int.reduceToNat, reduceIte, reduceCtorEq]
          have w5 := w2 (by omega)
          have hw2 : IntKind.i64.wrap (300 + w) = 300 + w := wrap64 (by omega) (by omega)
          simp only [go_sem, Nat.reduceAdd, Nat.reduceSub, Nat.reduceMul, Nat.reduceEqDiff, Nat.reduceBEq, Nat.reduceBNe, Nat.reduceLT, Nat.reduceLeDiff, Int.reduceNeg, Int.reduceAdd, Int.reduceSub, Int.reduceMul, Int.reduceEq, Int.reduceLT, Int.reduceLE, Int.reduceToNat, reduceIte, reduceCtorEq, hw2]
        repeat' first | refine And.intro ?_ ?_ | intro _
        all_goals first | omega | skip
        all_goals exact ⟨_, _, ⟨rfl, rfl⟩, by rw [size_mk, List.length_replicate]; omega⟩
      · simp only [go_sem, Nat.reduceAdd, Nat.reduceSub, Nat.reduceMul, Nat.reduceEqDiff, Nat.reduceBEq, Nat.reduceBNe, Nat.reduceLT, Nat.reduceLeDiff, Int.reduceNeg, Int.reduceAdd, Int.reduceSub, Int.reduceMul, Int.reduceEq, Int.reduceLT, Int.reduceLE, Int.reduceToNat, reduceIte, reduceCtorEq]
        refine call_mut 0 4 rfl rfl rfl (by simp only [go_sem, Nat.reduceAdd, Nat.reduceSub, Nat.reduceMul, Nat.reduceEqDiff, Nat.reduceBEq, Nat.reduceBNe, Nat.reduceLT, Nat.reduceLeDiff, Int.reduceNeg, Int.reduceAdd, Int.reduceSub, Int.reduceMul, Int.reduceEq, Int.reduceLT, Int.reduceLE, Int.reduceToNat, reduceIte, reduceCtorEq]) ?_
        simp only [go_sem, Nat.reduceAdd, Nat.reduceSub, Nat.reduceMul, Nat.reduceEqDiff, Nat.reduceBEq, Nat.reduceBNe, Nat.reduceLT, Nat.reduceLeDiff, Int.reduceNeg, Int.reduceAdd, Int.reduceSub, Int.reduceMul, Int.reduceEq, Int.reduceLT, Int.reduceLE, Int.reduceToNat, reduceIte, reduceCtorEq, List.set]
        refine callM.use ((ok128 (Cur.mk l i4 e4) v1)) ?_
        rintro _ _ ⟨t, i5, e5, rfl, t1, t2, rfl⟩
        simp only [go_sem, Nat.reduceAdd, Nat.reduceSub, Nat.reduceMul, Nat.reduceEqDiff, Nat.reduceBEq, Nat.reduceBNe, Nat.reduceLT, Nat.reduceLeDiff, Int.reduceNeg, Int.reduceAdd, Int.reduceSub, Int.reduceMul, Int.reduceEq, Int.reduceLT, Int.reduceLE, Int.reduceToNat, reduceIte, reduceCtorEq]
        exact ⟨_, _, ⟨rfl, rfl⟩, by omega⟩
  · simp only [go_sem, Nat.reduceAdd, Nat.reduceSub, Nat.reduceMul, Nat.reduceEqDiff, Nat.reduceBEq, Nat.reduceBNe, Nat.reduceLT, Nat.reduceLeDiff, Int.reduceNeg, Int.reduceAdd, Int.reduceSub, Int.reduceMul, Int.reduceEq, Int.reduceLT, Int.reduceLE, Int.reduceToNat, reduceIte, reduceCtorEq]
    refine call_mut 0 4 rfl rfl rfl (by simp only [go_sem, Nat.reduceAdd, Nat.reduceSub, Nat.reduceMul, Nat.reduceEqDiff, Nat.reduceBEq, Nat.reduceBNe, Nat.reduceLT, Nat.reduceLeDiff, Int.reduceNeg, Int.reduceAdd, Int.reduceSub, Int.reduceMul, Int.reduceEq, Int.reduceLT, Int.reduceLE, Int.reduceToNat, reduceIte, reduceCtorEq]) ?_
    simp only [go_sem, Nat.reduceAdd, Nat.reduceSub, Nat.reduceMul, Nat.reduceEqDiff, Nat.reduceBEq, Nat.reduceBNe, Nat.reduceLT, Nat.reduceLeDiff, Int.reduceNeg, Int.reduceAdd, Int.reduceSub, Int.reduceMul, Int.reduceEq, Int.reduceLT, Int.reduceLE, Int.reduceToNat, reduceIte, reduceCtorEq, List.set]
    refine callM.use ((ok126 (Cur.mk l i2 e2) u1 12)) ?_
    rintro _ _ ⟨v, i4, e4, rfl, v1, rfl⟩
    simp only [go_sem, Nat.reduceAdd, Nat.reduceSub, Nat.reduceMul, Nat.reduceEqDiff, Nat.reduceBEq, Nat.reduceBNe, Nat.reduceLT, Nat.reduceLeDiff, Int.reduceNeg, Int.reduceAdd, Int.reduceSub, Int.reduceMul, Int.reduceEq, Int.reduceLT, Int.reduceLE, Int.reduceToNat, reduceIte, reduceCtorEq]
    first | refine branch_ndec (fun h2 => ?_) (fun h2 => ?_) | refine branch_dec (fun h2 => ?_) (fun h2 => ?_) | refine branch_nbool (fun h2 => ?_) (fun h2 => ?_) | refine branch_split (fun h2 => ?_) (fun h2 => ?_)
    · simp only [go_sem, Nat.reduceAdd, Nat.reduceSub, Nat.reduceMul, Nat.reduceEqDiff, Nat.reduceBEq, Nat.reduceBNe, Nat.reduceLT, Nat.reduceLeDiff, Int.reduceNeg, Int.reduceAdd, Int.reduceSub, Int.reduceMul, Int.reduceEq, Int.reduceLT, Int.reduceLE, Int.reduceToNat, reduceIte, reduceCtorEq]
      repeat' first | refine And.intro ?_ ?_ | intro _
      all_goals
        refine call_mut 0 4 rfl rfl rfl (by simp only [go_sem, Nat.reduceAdd, Nat.reduceSub, Nat.reduceMul, Nat.reduceEqDiff, Nat.reduceBEq, Nat.reduceBNe, Nat.reduceLT, Nat.reduceLeDiff, Int.reduceNeg, Int.reduceAdd, Int.reduceSub, Int.reduceMul, Int.reduceEq, Int.reduceLT, Int.reduceLE, Int.reduceToNat, reduceIte, reduceCtorEq]) ?_
        simp only [go_sem, Nat.reduceAdd, Nat.reduceSub, Nat.reduceMul, Nat.reduceEqDiff, Nat.reduceBEq, Nat.reduceBNe, Nat.reduceLT, Nat.reduceLeDiff, Int.reduceNeg, Int.reduceAdd, Int.reduceSub, Int.reduceMul, Int.reduceEq, Int.reduceLT, Int.reduceLE, Int.reduceToNat, reduceIte, reduceCtorEq, List.set]
        refine callM.use ((ok127 (Cur.mk l i4 e4) v1 2)) ?_
        rintro _ _ ⟨w, i5, e5, rfl, w1, w2, w3, w4, rfl⟩
        simp only [go_sem, Nat.reduceAdd, Nat.reduceSub, Nat.reduceMul, Nat.reduceEqDiff, Nat.reduceBEq, Nat.reduceBNe, Nat.reduceLT, Nat.reduceLeDiff, Int.reduceNeg, Int.reduceAdd, Int.reduceSub, Int.reduceMul, Int.reduceEq, Int.reduceLT, Int.reduceLE, Int.reduceToNat, reduceIte, reduceCtorEq]
        have w5 := w2 (by omega)
        have hw2 : IntKind.i64.wrap (300 + w) = 300 + w := wrap64 (by omega) (by omega)
        simp only [go_sem, Nat.reduceAdd, Nat.reduceSub, Nat.reduceMul, Nat.reduceEqDiff, Nat.reduceBEq, Nat.reduceBNe, Nat.reduceLT, Nat.reduceLeDiff, Int.reduceNeg, Int.reduceAdd, Int.reduceSub, Int.reduceMul, Int.reduceEq, Int.reduceLT, Int.reduceLE, Int.reduceToNat, reduceIte, reduceCtorEq, hw2]
      repeat' first | refine And.intro ?_ ?_ | intro _
      all_goals first | omega | skip
      all_goals exact ⟨_, _, ⟨rfl, rfl⟩, by rw [size_mk, List.length_replicate]; omega⟩
    · simp only [go_sem, Nat.reduceAdd, Nat.reduceSub, Nat.reduceMul, Nat.reduceEqDiff, Nat.reduceBEq, Nat.reduceBNe, Nat.reduceLT, Nat.reduceLeDiff, Int.reduceNeg, Int.reduceAdd, Int.reduceSub, Int.reduceMul, Int.reduceEq, Int.reduceLT, Int.reduceLE, Int.reduceToNat, reduceIte, reduceCtorEq]
      refine call_mut 0 4 rfl rfl rfl (by simp only [go_sem, Nat.reduceAdd, Nat.reduceSub, Nat.reduceMul, Nat.reduceEqDiff, Nat.reduceBEq, Nat.reduceBNe, Nat.reduceLT, Nat.reduceLeDiff, Int.reduceNeg, Int.reduceAdd, Int.reduceSub, Int.reduceMul, Int.reduceEq, Int.reduceLT, Int.reduceLE, Int.reduceToNat, reduceIte, reduceCtorEq]) ?_
      simp only [go_sem, Nat.reduceAdd, Nat.reduceSub, Nat.reduceMul, Nat.reduceEqDiff, Nat.reduceBEq, Nat.reduceBNe, Nat.reduceLT, Nat.reduceLeDiff, Int.reduceNeg, Int.reduceAdd, Int.reduceSub, Int.reduceMul, Int.reduceEq, Int.reduceLT, Int.reduceLE, Int.reduceToNat, reduceIte, reduceCtorEq, List.set]
      refine callM.use ((ok128 (Cur.mk l i4 e4) v1)) ?_
      rintro _ _ ⟨t, i5, e5, rfl, t1, t2, rfl⟩
      simp only [go_sem, Nat.reduceAdd, Nat.reduceSub, Nat.reduceMul, Nat.reduceEqDiff, Nat.reduceBEq, Nat.reduceBNe, Nat.reduceLT, Nat.reduceLeDiff, Int.reduceNeg, Int.reduceAdd, Int.reduceSub, Int.reduceMul, Int.reduceEq, Int.reduceLT, Int.reduceLE, Int.reduceToNat, reduceIte, reduceCtorEq]
      exact ⟨_, _, ⟨rfl, rfl⟩, by omega⟩
theorem ok31 (l : List UInt8) : VCalls gz 31 [.lst false 1 (l.map byteA)] none (fun y _ => ∃ t, y = .lit (.string t) ∧ t.size ≤ 1000) := by
  refine VCalls.go (nt := 23) (keep := [0, 2, 3, 4, 5, 6, 18]) (muts := []) (mvs := []) [] f31_at rfl (by kernel_rfl) rfl (by kernel_rfl) rfl (fun i h => by cases h) rfl ?_
  intro hok
  simp only [go_sem, Nat.reduceAdd, Nat.reduceSub, Nat.reduceMul, Nat.reduceEqDiff, Nat.reduceBEq, Nat.reduceBNe, Nat.reduceLT, Nat.reduceLeDiff, Int.reduceNeg, Int.reduceAdd, Int.reduceSub, Int.reduceMul, Int.reduceEq, Int.reduceLT, Int.reduceLE, Int.reduceToNat, reduceIte, reduceCtorEq] at hok
  simp only [Tryz.f31, Func.code, Option.getD_some]
  simp only [go_sem, Nat.reduceAdd, Nat.reduceSub, Nat.reduceMul, Nat.reduceEqDiff, Nat.reduceBEq, Nat.reduceBNe, Nat.reduceLT, Nat.reduceLeDiff, Int.reduceNeg, Int.reduceAdd, Int.reduceSub, Int.reduceMul, Int.reduceEq, Int.reduceLT, Int.reduceLE, Int.reduceToNat, reduceIte, reduceCtorEq]
  refine call_share ?_
  simp only [go_sem, Nat.reduceAdd, Nat.reduceSub, Nat.reduceMul, Nat.reduceEqDiff, Nat.reduceBEq, Nat.reduceBNe, Nat.reduceLT, Nat.reduceLeDiff, Int.reduceNeg, Int.reduceAdd, Int.reduceSub, Int.reduceMul, Int.reduceEq, Int.reduceLT, Int.reduceLE, Int.reduceToNat, reduceIte, reduceCtorEq]
  refine callS.use (ok124 l) ?_
  rintro _ _ ⟨h0, rfl⟩
  simp only [go_sem, Nat.reduceAdd, Nat.reduceSub, Nat.reduceMul, Nat.reduceEqDiff, Nat.reduceBEq, Nat.reduceBNe, Nat.reduceLT, Nat.reduceLeDiff, Int.reduceNeg, Int.reduceAdd, Int.reduceSub, Int.reduceMul, Int.reduceEq, Int.reduceLT, Int.reduceLE, Int.reduceToNat, reduceIte, reduceCtorEq]
  refine call_lend ?_
  simp only [go_sem, Nat.reduceAdd, Nat.reduceSub, Nat.reduceMul, Nat.reduceEqDiff, Nat.reduceBEq, Nat.reduceBNe, Nat.reduceLT, Nat.reduceLeDiff, Int.reduceNeg, Int.reduceAdd, Int.reduceSub, Int.reduceMul, Int.reduceEq, Int.reduceLT, Int.reduceLE, Int.reduceToNat, reduceIte, reduceCtorEq]
  refine callN.use (ok29 l) ?_
  rintro _ _ ⟨n, t, rfl, ht⟩
  refine ⟨by simp only [go_sem, Nat.reduceAdd, Nat.reduceSub, Nat.reduceMul, Nat.reduceEqDiff, Nat.reduceBEq, Nat.reduceBNe, Nat.reduceLT, Nat.reduceLeDiff, Int.reduceNeg, Int.reduceAdd, Int.reduceSub, Int.reduceMul, Int.reduceEq, Int.reduceLT, Int.reduceLE, Int.reduceToNat, reduceIte, reduceCtorEq], ?_⟩
  simp only [go_sem, Nat.reduceAdd, Nat.reduceSub, Nat.reduceMul, Nat.reduceEqDiff, Nat.reduceBEq, Nat.reduceBNe, Nat.reduceLT, Nat.reduceLeDiff, Int.reduceNeg, Int.reduceAdd, Int.reduceSub, Int.reduceMul, Int.reduceEq, Int.reduceLT, Int.reduceLE, Int.reduceToNat, reduceIte, reduceCtorEq]
  refine call_lend ?_
  simp only [go_sem, Nat.reduceAdd, Nat.reduceSub, Nat.reduceMul, Nat.reduceEqDiff, Nat.reduceBEq, Nat.reduceBNe, Nat.reduceLT, Nat.reduceLeDiff, Int.reduceNeg, Int.reduceAdd, Int.reduceSub, Int.reduceMul, Int.reduceEq, Int.reduceLT, Int.reduceLE, Int.reduceToNat, reduceIte, reduceCtorEq]
  refine callN.eq (ok35 n t) (by simp only [go_sem, Nat.reduceAdd, Nat.reduceSub, Nat.reduceMul, Nat.reduceEqDiff, Nat.reduceBEq, Nat.reduceBNe, Nat.reduceLT, Nat.reduceLeDiff, Int.reduceNeg, Int.reduceAdd, Int.reduceSub, Int.reduceMul, Int.reduceEq, Int.reduceLT, Int.reduceLE, Int.reduceToNat, reduceIte, reduceCtorEq]) ?_
  simp only [go_sem, Nat.reduceAdd, Nat.reduceSub, Nat.reduceMul, Nat.reduceEqDiff, Nat.reduceBEq, Nat.reduceBNe, Nat.reduceLT, Nat.reduceLeDiff, Int.reduceNeg, Int.reduceAdd, Int.reduceSub, Int.reduceMul, Int.reduceEq, Int.reduceLT, Int.reduceLE, Int.reduceToNat, reduceIte, reduceCtorEq]
  have hz := slotS_size n t
  refine call_mut 0 3 rfl rfl rfl (by simp only [go_sem, Nat.reduceAdd, Nat.reduceSub, Nat.reduceMul, Nat.reduceEqDiff, Nat.reduceBEq, Nat.reduceBNe, Nat.reduceLT, Nat.reduceLeDiff, Int.reduceNeg, Int.reduceAdd, Int.reduceSub, Int.reduceMul, Int.reduceEq, Int.reduceLT, Int.reduceLE, Int.reduceToNat, reduceIte, reduceCtorEq]) ?_
  simp only [go_sem, Nat.reduceAdd, Nat.reduceSub, Nat.reduceMul, Nat.reduceEqDiff, Nat.reduceBEq, Nat.reduceBNe, Nat.reduceLT, Nat.reduceLeDiff, Int.reduceNeg, Int.reduceAdd, Int.reduceSub, Int.reduceMul, Int.reduceEq, Int.reduceLT, Int.reduceLE, Int.reduceToNat, reduceIte, reduceCtorEq, List.set]
  refine callM.use ((ok126 (Cur.mk l 0 h0) (Int.le_refl _) 2)) ?_
  rintro _ _ ⟨u, i2, e2, rfl, u1, rfl⟩
  simp only [go_sem, Nat.reduceAdd, Nat.reduceSub, Nat.reduceMul, Nat.reduceEqDiff, Nat.reduceBEq, Nat.reduceBNe, Nat.reduceLT, Nat.reduceLeDiff, Int.reduceNeg, Int.reduceAdd, Int.reduceSub, Int.reduceMul, Int.reduceEq, Int.reduceLT, Int.reduceLE, Int.reduceToNat, reduceIte, reduceCtorEq]
  first | refine branch_ndec (fun h => ?_) (fun h => ?_) | refine branch_dec (fun h => ?_) (fun h => ?_) | refine branch_nbool (fun h => ?_) (fun h => ?_) | refine branch_split (fun h => ?_) (fun h => ?_)
  · simp only [go_sem, Nat.reduceAdd, Nat.reduceSub, Nat.reduceMul, Nat.reduceEqDiff, Nat.reduceBEq, Nat.reduceBNe, Nat.reduceLT, Nat.reduceLeDiff, Int.reduceNeg, Int.reduceAdd, Int.reduceSub, Int.reduceMul, Int.reduceEq, Int.reduceLT, Int.reduceLE, Int.reduceToNat, reduceIte, reduceCtorEq]
    refine call_mut 0 3 rfl rfl rfl (by simp only [go_sem, Nat.reduceAdd, Nat.reduceSub, Nat.reduceMul, Nat.reduceEqDiff, Nat.reduceBEq, Nat.reduceBNe, Nat.reduceLT, Nat.reduceLeDiff, Int.reduceNeg, Int.reduceAdd, Int.reduceSub, Int.reduceMul, Int.reduceEq, Int.reduceLT, Int.reduceLE, Int.reduceToNat, reduceIte, reduceCtorEq]) ?_
    simp only [go_sem, Nat.reduceAdd, Nat.reduceSub, Nat.reduceMul, Nat.reduceEqDiff, Nat.reduceBEq, Nat.reduceBNe, Nat.reduceLT, Nat.reduceLeDiff, Int.reduceNeg, Int.reduceAdd, Int.reduceSub, Int.reduceMul, Int.reduceEq, Int.reduceLT, Int.reduceLE, Int.reduceToNat, reduceIte, reduceCtorEq, List.set]
    refine callM.use ((ok134 (Cur.mk l i2 e2) u1 (slotS n t) (⟨#[48, 49, 32, 57, 97]⟩ : ByteArray) (by omega) (by decide) (by decide))) ?_
    rintro _ _ ⟨s, i3, e3, rfl, s1, s2, rfl⟩
    simp only [go_sem, Nat.reduceAdd, Nat.reduceSub, Nat.reduceMul, Nat.reduceEqDiff, Nat.reduceBEq, Nat.reduceBNe, Nat.reduceLT, Nat.reduceLeDiff, Int.reduceNeg, Int.reduceAdd, Int.reduceSub, Int.reduceMul, Int.reduceEq, Int.reduceLT, Int.reduceLE, Int.reduceToNat, reduceIte, reduceCtorEq]
    exact ⟨_, rfl, by omega⟩
  · simp only [go_sem, Nat.reduceAdd, Nat.reduceSub, Nat.reduceMul, Nat.reduceEqDiff, Nat.reduceBEq, Nat.reduceBNe, Nat.reduceLT, Nat.reduceLeDiff, Int.reduceNeg, Int.reduceAdd, Int.reduceSub, Int.reduceMul, Int.reduceEq, Int.reduceLT, Int.reduceLE, Int.reduceToNat, reduceIte, reduceCtorEq]
    exact ⟨_, rfl, by omega⟩
theorem ok27 (l : List UInt8) : VCalls gz 27 [.lst false 1 (l.map byteA)] none (fun y _ => ∃ d, y = Dev.enc true d ∧ d.small) := by
  refine VCalls.go (nt := 8) (keep := [0, 2, 3]) (muts := []) (mvs := []) [] f27_at rfl (by kernel_rfl) rfl (by kernel_rfl) rfl (fun i h => by cases h) rfl ?_
  intro hok
  simp only [go_sem, Nat.reduceAdd, Nat.reduceSub, Nat.reduceMul, Nat.reduceEqDiff, Nat.reduceBEq, Nat.reduceBNe, Nat.reduceLT, Nat.reduceLeDiff, Int.reduceNeg, Int.reduceAdd, Int.reduceSub, Int.reduceMul, Int.reduceEq, Int.reduceLT, Int.reduceLE, Int.reduceToNat, reduceIte, reduceCtorEq] at hok
  simp only [Tryz.f27, Func.code, Option.getD_some]
  simp only [go_sem, Nat.reduceAdd, Nat.reduceSub, Nat.reduceMul, Nat.reduceEqDiff, Nat.reduceBEq, Nat.reduceBNe, Nat.reduceLT, Nat.reduceLeDiff, Int.reduceNeg, Int.reduceAdd, Int.reduceSub, Int.reduceMul, Int.reduceEq, Int.reduceLT, Int.reduceLE, Int.reduceToNat, reduceIte, reduceCtorEq]
  refine call_share ?_
  simp only [go_sem, Nat.reduceAdd, Nat.reduceSub, Nat.reduceMul, Nat.reduceEqDiff, Nat.reduceBEq, Nat.reduceBNe, Nat.reduceLT, Nat.reduceLeDiff, Int.reduceNeg, Int.reduceAdd, Int.reduceSub, Int.reduceMul, Int.reduceEq, Int.reduceLT, Int.reduceLE, Int.reduceToNat, reduceIte, reduceCtorEq]
  refine callS.use (ok124 l) ?_
  rintro _ _ ⟨h0, rfl⟩
  simp only [go_sem, Nat.reduceAdd, Nat.reduceSub, Nat.reduceMul, Nat.reduceEqDiff, Nat.reduceBEq, Nat.reduceBNe, Nat.reduceLT, Nat.reduceLeDiff, Int.reduceNeg, Int.reduceAdd, Int.reduceSub, Int.reduceMul, Int.reduceEq, Int.reduceLT, Int.reduceLE, Int.reduceToNat, reduceIte, reduceCtorEq]
  refine call_mut 0 3 rfl rfl rfl (by simp only [go_sem, Nat.reduceAdd, Nat.reduceSub, Nat.reduceMul, Nat.reduceEqDiff, Nat.reduceBEq, Nat.reduceBNe, Nat.reduceLT, Nat.reduceLeDiff, Int.reduceNeg, Int.reduceAdd, Int.reduceSub, Int.reduceMul, Int.reduceEq, Int.reduceLT, Int.reduceLE, Int.reduceToNat, reduceIte, reduceCtorEq]) ?_
  simp only [go_sem, Nat.reduceAdd, Nat.reduceSub, Nat.reduceMul, Nat.reduceEqDiff, Nat.reduceBEq, Nat.reduceBNe, Nat.reduceLT, Nat.reduceLeDiff, Int.reduceNeg, Int.reduceAdd, Int.reduceSub, Int.reduceMul, Int.reduceEq, Int.reduceLT, Int.reduceLE, Int.reduceToNat, reduceIte, reduceCtorEq, List.set]
  refine callM.use ((ok125 (Cur.mk l 0 h0) (Int.le_refl _))) ?_
  rintro _ _ ⟨d, i, e, rfl, d1, d2, rfl⟩
  simp only [go_sem, Nat.reduceAdd, Nat.reduceSub, Nat.reduceMul, Nat.reduceEqDiff, Nat.reduceBEq, Nat.reduceBNe, Nat.reduceLT, Nat.reduceLeDiff, Int.reduceNeg, Int.reduceAdd, Int.reduceSub, Int.reduceMul, Int.reduceEq, Int.reduceLT, Int.reduceLE, Int.reduceToNat, reduceIte, reduceCtorEq]
  exact ⟨d, ⟨rfl, rfl⟩, d1⟩
theorem ok24 (l : List UInt8) : VCalls gz 24 [.lst false 1 (l.map byteA)] none (fun y _ => ∃ d t, y = .tup [Dev.enc true d, .lit (.string t)] ∧ d.small ∧ t.size ≤ 400) := by
  refine VCalls.go (nt := 21) (keep := [0, 2, 3, 4, 5, 11]) (muts := []) (mvs := [4,5]) [(4, .tree false (.take 1 (.all (.cons 0 (.all (.cons 2 (.take 3 (.all (.cons 4 (.all (.cons 5 (.all (.cons 6 (.all (.cons 7 .done .nil)) .nil)) (.cons 6 (.all (.cons 5 (.all (.cons 7 .done .nil)) .nil)) .nil))) (.cons 6 (.all (.cons 4 (.all (.cons 5 (.all (.cons 7 .done .nil)) .nil)) .nil)) .nil)))) .nil)) (.cons 2 (.take 3 (.all (.cons 0 (.all (.cons 4 (.all (.cons 5 (.all (.cons 6 (.all (.cons 7 .done .nil)) .nil)) (.cons 6 (.all (.cons 5 (.all (.cons 7 .done .nil)) .nil)) .nil))) (.cons 6 (.all (.cons 4 (.all (.cons 5 (.all (.cons 7 .done .nil)) .nil)) .nil)) .nil))) (.cons 4 (.all (.cons 0 (.all (.cons 5 (.all (.cons 6 (.all (.cons 7 .done .nil)) .nil)) (.cons 6 (.all (.cons 5 (.all (.cons 7 .done .nil)) .nil)) .nil))) (.cons 5 (.all (.cons 0 (.all (.cons 6 (.all (.cons 7 .done .nil)) .nil)) .nil)) .nil))) .nil)))) .nil))))), (5, .tree false (.take 1 (.all (.cons 0 (.all (.cons 2 (.all (.cons 3 (.all (.cons 4 .done .nil)) .nil)) .nil)) (.cons 2 (.all (.cons 0 (.all (.cons 3 (.all (.cons 4 .done .nil)) .nil)) .nil)) .nil)))))] f24_at rfl (by kernel_rfl) rfl (by kernel_rfl) rfl (fun i h => by cases h) rfl ?_
  intro hok
  simp only [go_sem, Nat.reduceAdd, Nat.reduceSub, Nat.reduceMul, Nat.reduceEqDiff, Nat.reduceBEq, Nat.reduceBNe, Nat.reduceLT, Nat.reduceLeDiff, Int.reduceNeg, Int.reduceAdd, Int.reduceSub, Int.reduceMul, Int.reduceEq, Int.reduceLT, Int.reduceLE, Int.reduceToNat, reduceIte, reduceCtorEq] at hok
  simp only [Tryz.f24, Func.code, Option.getD_some]
  simp only [go_sem, Nat.reduceAdd, Nat.reduceSub, Nat.reduceMul, Nat.reduceEqDiff, Nat.reduceBEq, Nat.reduceBNe, Nat.reduceLT, Nat.reduceLeDiff, Int.reduceNeg, Int.reduceAdd, Int.reduceSub, Int.reduceMul, Int.reduceEq, Int.reduceLT, Int.reduceLE, Int.reduceToNat, reduceIte, reduceCtorEq]
  refine call_share ?_
  simp only [go_sem, Nat.reduceAdd, Nat.reduceSub, Nat.reduceMul, Nat.reduceEqDiff, Nat.reduceBEq, Nat.reduceBNe, Nat.reduceLT, Nat.reduceLeDiff, Int.reduceNeg, Int.reduceAdd, Int.reduceSub, Int.reduceMul, Int.reduceEq, Int.reduceLT, Int.reduceLE, Int.reduceToNat, reduceIte, reduceCtorEq]
  refine callS.use (ok124 l) ?_
  rintro _ _ ⟨h0, rfl⟩
  simp only [go_sem, Nat.reduceAdd, Nat.reduceSub, Nat.reduceMul, Nat.reduceEqDiff, Nat.reduceBEq, Nat.reduceBNe, Nat.reduceLT, Nat.reduceLeDiff, Int.reduceNeg, Int.reduceAdd, Int.reduceSub, Int.reduceMul, Int.reduceEq, Int.reduceLT, Int.reduceLE, Int.reduceToNat, reduceIte, reduceCtorEq]
  refine call_mut 0 4 rfl rfl rfl (by simp only [go_sem, Nat.reduceAdd, Nat.reduceSub, Nat.reduceMul, Nat.reduceEqDiff, Nat.reduceBEq, Nat.reduceBNe, Nat.reduceLT, Nat.reduceLeDiff, Int.reduceNeg, Int.reduceAdd, Int.reduceSub, Int.reduceMul, Int.reduceEq, Int.reduceLT, Int.reduceLE, Int.reduceToNat, reduceIte, reduceCtorEq]) ?_
  simp only [go_sem, Nat.reduceAdd, Nat.reduceSub, Nat.reduceMul, Nat.reduceEqDiff, Nat.reduceBEq, Nat.reduceBNe, Nat.reduceLT, Nat.reduceLeDiff, Int.reduceNeg, Int.reduceAdd, Int.reduceSub, Int.reduceMul, Int.reduceEq, Int.reduceLT, Int.reduceLE, Int.reduceToNat, reduceIte, reduceCtorEq, List.set]
  refine callM.use ((ok125 (Cur.mk l 0 h0) (Int.le_refl _))) ?_
  rintro _ _ ⟨d, i, e, rfl, d1, d2, rfl⟩
  simp only [go_sem, Nat.reduceAdd, Nat.reduceSub, Nat.reduceMul, Nat.reduceEqDiff, Nat.reduceBEq, Nat.reduceBNe, Nat.reduceLT, Nat.reduceLeDiff, Int.reduceNeg, Int.reduceAdd, Int.reduceSub, Int.reduceMul, Int.reduceEq, Int.reduceLT, Int.reduceLE, Int.reduceToNat, reduceIte, reduceCtorEq]
  refine call_mut 0 4 rfl rfl rfl (by simp only [go_sem, Nat.reduceAdd, Nat.reduceSub, Nat.reduceMul, Nat.reduceEqDiff, Nat.reduceBEq, Nat.reduceBNe, Nat.reduceLT, Nat.reduceLeDiff, Int.reduceNeg, Int.reduceAdd, Int.reduceSub, Int.reduceMul, Int.reduceEq, Int.reduceLT, Int.reduceLE, Int.reduceToNat, reduceIte, reduceCtorEq]) ?_
  simp only [go_sem, Nat.reduceAdd, Nat.reduceSub, Nat.reduceMul, Nat.reduceEqDiff, Nat.reduceBEq, Nat.reduceBNe, Nat.reduceLT, Nat.reduceLeDiff, Int.reduceNeg, Int.reduceAdd, Int.reduceSub, Int.reduceMul, Int.reduceEq, Int.reduceLT, Int.reduceLE, Int.reduceToNat, reduceIte, reduceCtorEq, List.set]
  refine callM.use ((ok126 (Cur.mk l i e) d2 14)) ?_
  rintro _ _ ⟨u, i2, e2, rfl, u1, rfl⟩
  simp only [go_sem, Nat.reduceAdd, Nat.reduceSub, Nat.reduceMul, Nat.reduceEqDiff, Nat.reduceBEq, Nat.reduceBNe, Nat.reduceLT, Nat.reduceLeDiff, Int.reduceNeg, Int.reduceAdd, Int.reduceSub, Int.reduceMul, Int.reduceEq, Int.reduceLT, Int.reduceLE, Int.reduceToNat, reduceIte, reduceCtorEq]
  first | refine branch_ndec (fun h => ?_) (fun h => ?_) | refine branch_dec (fun h => ?_) (fun h => ?_) | refine branch_nbool (fun h => ?_) (fun h => ?_) | refine branch_split (fun h => ?_) (fun h => ?_)
  · simp only [go_sem, Nat.reduceAdd, Nat.reduceSub, Nat.reduceMul, Nat.reduceEqDiff, Nat.reduceBEq, Nat.reduceBNe, Nat.reduceLT, Nat.reduceLeDiff, Int.reduceNeg, Int.reduceAdd, Int.reduceSub, Int.reduceMul, Int.reduceEq, Int.reduceLT, Int.reduceLE, Int.reduceToNat, reduceIte, reduceCtorEq]
    repeat' first | refine And.intro ?_ ?_ | intro _
    all_goals
      refine call_mut 0 4 rfl rfl rfl (by simp only [go_sem, Nat.reduceAdd, Nat.reduceSub, Nat.reduceMul, Nat.reduceEqDiff, Nat.reduceBEq, Nat.reduceBNe, Nat.reduceLT, Nat.reduceLeDiff, Int.reduceNeg, Int.reduceAdd, Int.reduceSub, Int.reduceMul, Int.reduceEq, Int.reduceLT, Int.reduceLE, Int.reduceToNat, reduceIte, reduceCtorEq]) ?_
      simp only [go_sem, Nat.reduceAdd, Nat.reduceSub, Nat.reduceMul, Nat.reduceEqDiff, Nat.reduceBEq, Nat.reduceBNe, Nat.reduceLT, Nat.reduceLeDiff, Int.reduceNeg, Int.reduceAdd, Int.reduceSub, Int.reduceMul, Int.reduceEq, Int.reduceLT, Int.reduceLE, Int.reduceToNat, reduceIte, reduceCtorEq, List.set]
      refine callM.use ((ok127 (Cur.mk l i2 e2) u1 2)) ?_
      rintro _ _ ⟨w, i5, e5, rfl, w1, w2, w3, w4, rfl⟩
      simp only [go_sem, Nat.reduceAdd, Nat.reduceSub, Nat.reduceMul, Nat.reduceEqDiff, Nat.reduceBEq, Nat.reduceBNe, Nat.reduceLT, Nat.reduceLeDiff, Int.reduceNeg, Int.reduceAdd, Int.reduceSub, Int.reduceMul, Int.reduceEq, Int.reduceLT, Int.reduceLE, Int.reduceToNat, reduceIte, reduceCtorEq]
      have w5 := w2 (by omega)
      have hw2 : IntKind.i64.wrap (300 + w) = 300 + w := wrap64 (by omega) (by omega)
      simp only [go_sem, Nat.reduceAdd, Nat.reduceSub, Nat.reduceMul, Nat.reduceEqDiff, Nat.reduceBEq, Nat.reduceBNe, Nat.reduceLT, Nat.reduceLeDiff, Int.reduceNeg, Int.reduceAdd, Int.reduceSub, Int.reduceMul, Int.reduceEq, Int.reduceLT, Int.reduceLE, Int.reduceToNat, reduceIte, reduceCtorEq, hw2]
    repeat' first | refine And.intro ?_ ?_ | intro _
    all_goals first | omega | skip
    all_goals exact ⟨d, _, ⟨⟨rfl, rfl⟩, rfl⟩, d1, by rw [size_mk, List.length_replicate]; omega⟩
  · simp only [go_sem, Nat.reduceAdd, Nat.reduceSub, Nat.reduceMul, Nat.reduceEqDiff, Nat.reduceBEq, Nat.reduceBNe, Nat.reduceLT, Nat.reduceLeDiff, Int.reduceNeg, Int.reduceAdd, Int.reduceSub, Int.reduceMul, Int.reduceEq, Int.reduceLT, Int.reduceLE, Int.reduceToNat, reduceIte, reduceCtorEq]
    repeat' first | refine And.intro ?_ ?_ | intro _
    all_goals
      refine call_mut 0 4 rfl rfl rfl (by simp only [go_sem, Nat.reduceAdd, Nat.reduceSub, Nat.reduceMul, Nat.reduceEqDiff, Nat.reduceBEq, Nat.reduceBNe, Nat.reduceLT, Nat.reduceLeDiff, Int.reduceNeg, Int.reduceAdd, Int.reduceSub, Int.reduceMul, Int.reduceEq, Int.reduceLT, Int.reduceLE, Int.reduceToNat, reduceIte, reduceCtorEq]) ?_
      simp only [go_sem, Nat.reduceAdd, Nat.reduceSub, Nat.reduceMul, Nat.reduceEqDiff, Nat.reduceBEq, Nat.reduceBNe, Nat.reduceLT, Nat.reduceLeDiff, Int.reduceNeg, Int.reduceAdd, Int.reduceSub, Int.reduceMul, Int.reduceEq, Int.reduceLT, Int.reduceLE, Int.reduceToNat, reduceIte, reduceCtorEq, List.set]
      refine callM.use ((ok128 (Cur.mk l i2 e2) u1)) ?_
      rintro _ _ ⟨t, i5, e5, rfl, t1, t2, rfl⟩
      simp only [go_sem, Nat.reduceAdd, Nat.reduceSub, Nat.reduceMul, Nat.reduceEqDiff, Nat.reduceBEq, Nat.reduceBNe, Nat.reduceLT, Nat.reduceLeDiff, Int.reduceNeg, Int.reduceAdd, Int.reduceSub, Int.reduceMul, Int.reduceEq, Int.reduceLT, Int.reduceLE, Int.reduceToNat, reduceIte, reduceCtorEq]
    repeat' first | refine And.intro ?_ ?_ | intro _
    all_goals exact ⟨d, _, ⟨⟨rfl, rfl⟩, rfl⟩, d1, by omega⟩
theorem ok25 (l : List UInt8) : VCalls gz 25 [.lst false 1 (l.map byteA)] none (fun y _ => ∃ d t b, y = .tup [Dev.enc true d, .lit (.string t), .lit (.bool b)] ∧ d.small ∧ t.size ≤ 400) := by
  refine VCalls.go (nt := 19) (keep := [0, 2, 3, 4, 5, 6, 7]) (muts := []) (mvs := [3]) [(3, .tree false (.take 1 (.take 2 (.all (.cons 0 (.all (.cons 3 (.all (.cons 4 (.all (.cons 5 (.all (.cons 6 .done .nil)) .nil)) .nil)) .nil)) (.cons 3 (.all (.cons 0 (.all (.cons 4 (.all (.cons 5 (.all (.cons 6 .done .nil)) .nil)) .nil)) .nil)) .nil))))))] f25_at rfl (by kernel_rfl) rfl (by kernel_rfl) rfl (fun i h => by cases h) rfl ?_
  intro hok
  simp only [go_sem, Nat.reduceAdd, Nat.reduceSub, Nat.reduceMul, Nat.reduceEqDiff, Nat.reduceBEq, Nat.reduceBNe, Nat.reduceLT, Nat.reduceLeDiff, Int.reduceNeg, Int.reduceAdd, Int.reduceSub, Int.reduceMul, Int.reduceEq, Int.reduceLT, Int.reduceLE, Int.reduceToNat, reduceIte, reduceCtorEq] at hok
  simp only [Tryz.f25, Func.code, Option.getD_some]
  simp only [go_sem, Nat.reduceAdd, Nat.reduceSub, Nat.reduceMul, Nat.reduceEqDiff, Nat.reduceBEq, Nat.reduceBNe, Nat.reduceLT, Nat.reduceLeDiff, Int.reduceNeg, Int.reduceAdd, Int.reduceSub, Int.reduceMul, Int.reduceEq, Int.reduceLT, Int.reduceLE, Int.reduceToNat, reduceIte, reduceCtorEq]
  refine call_share ?_
  simp only [go_sem, Nat.reduceAdd, Nat.reduceSub, Nat.reduceMul, Nat.reduceEqDiff, Nat.reduceBEq, Nat.reduceBNe, Nat.reduceLT, Nat.reduceLeDiff, Int.reduceNeg, Int.reduceAdd, Int.reduceSub, Int.reduceMul, Int.reduceEq, Int.reduceLT, Int.reduceLE, Int.reduceToNat, reduceIte, reduceCtorEq]
  refine callS.use (ok124 l) ?_
  rintro _ _ ⟨h0, rfl⟩
  simp only [go_sem, Nat.reduceAdd, Nat.reduceSub, Nat.reduceMul, Nat.reduceEqDiff, Nat.reduceBEq, Nat.reduceBNe, Nat.reduceLT, Nat.reduceLeDiff, Int.reduceNeg, Int.reduceAdd, Int.reduceSub, Int.reduceMul, Int.reduceEq, Int.reduceLT, Int.reduceLE, Int.reduceToNat, reduceIte, reduceCtorEq]
  refine call_lend ?_
  simp only [go_sem, Nat.reduceAdd, Nat.reduceSub, Nat.reduceMul, Nat.reduceEqDiff, Nat.reduceBEq, Nat.reduceBNe, Nat.reduceLT, Nat.reduceLeDiff, Int.reduceNeg, Int.reduceAdd, Int.reduceSub, Int.reduceMul, Int.reduceEq, Int.reduceLT, Int.reduceLE, Int.reduceToNat, reduceIte, reduceCtorEq]
  refine callN.use (ok24 l) ?_
  rintro _ _ ⟨d, t, rfl, d1, d2⟩
  refine ⟨by simp only [go_sem, Nat.reduceAdd, Nat.reduceSub, Nat.reduceMul, Nat.reduceEqDiff, Nat.reduceBEq, Nat.reduceBNe, Nat.reduceLT, Nat.reduceLeDiff, Int.reduceNeg, Int.reduceAdd, Int.reduceSub, Int.reduceMul, Int.reduceEq, Int.reduceLT, Int.reduceLE, Int.reduceToNat, reduceIte, reduceCtorEq], ?_⟩
  simp only [go_sem, Nat.reduceAdd, Nat.reduceSub, Nat.reduceMul, Nat.reduceEqDiff, Nat.reduceBEq, Nat.reduceBNe, Nat.reduceLT, Nat.reduceLeDiff, Int.reduceNeg, Int.reduceAdd, Int.reduceSub, Int.reduceMul, Int.reduceEq, Int.reduceLT, Int.reduceLE, Int.reduceToNat, reduceIte, reduceCtorEq]
  repeat' first | refine And.intro ?_ ?_ | intro _
  all_goals
    refine call_mut 0 5 rfl rfl rfl (by simp only [go_sem, Nat.reduceAdd, Nat.reduceSub, Nat.reduceMul, Nat.reduceEqDiff, Nat.reduceBEq, Nat.reduceBNe, Nat.reduceLT, Nat.reduceLeDiff, Int.reduceNeg, Int.reduceAdd, Int.reduceSub, Int.reduceMul, Int.reduceEq, Int.reduceLT, Int.reduceLE, Int.reduceToNat, reduceIte, reduceCtorEq]) ?_
    simp only [go_sem, Nat.reduceAdd, Nat.reduceSub, Nat.reduceMul, Nat.reduceEqDiff, Nat.reduceBEq, Nat.reduceBNe, Nat.reduceLT, Nat.reduceLeDiff, Int.reduceNeg, Int.reduceAdd, Int.reduceSub, Int.reduceMul, Int.reduceEq, Int.reduceLT, Int.reduceLE, Int.reduceToNat, reduceIte, reduceCtorEq, List.set]
    refine callM.use ((ok126 (Cur.mk l 0 h0) (Int.le_refl _) 2)) ?_
    rintro _ _ ⟨u, i2, e2, rfl, u1, rfl⟩
    simp only [go_sem, Nat.reduceAdd, Nat.reduceSub, Nat.reduceMul, Nat.reduceEqDiff, Nat.reduceBEq, Nat.reduceBNe, Nat.reduceLT, Nat.reduceLeDiff, Int.reduceNeg, Int.reduceAdd, Int.reduceSub, Int.reduceMul, Int.reduceEq, Int.reduceLT, Int.reduceLE, Int.reduceToNat, reduceIte, reduceCtorEq]
  repeat' first | refine And.intro ?_ ?_ | intro _
  all_goals exact ⟨d, _, _, ⟨⟨rfl, rfl⟩, rfl, rfl⟩, d1, d2⟩
end Go.VS
