/- VS: functions by the machine. -/
import Derived.Test.YtjpjfokhdogopaaVf
set_option linter.unusedSimpArgs false
set_option linter.unusedVariables false
open Go.Proofs
set_option maxRecDepth 20000
namespace Go.VS
theorem f20_at : gz.P.funcs[20]? = some Try.f20 := by
  have h : Try.prog.funcs[20]? = some Try.f20 := by kernel_rfl
  exact h
theorem f33_at : gz.P.funcs[33]? = some Try.f33 := by
  have h : Try.prog.funcs[33]? = some Try.f33 := by kernel_rfl
  exact h
theorem f19_at : gz.P.funcs[19]? = some Try.f19 := by
  have h : Try.prog.funcs[19]? = some Try.f19 := by kernel_rfl
  exact h
theorem f12_at : gz.P.funcs[12]? = some Try.f12 := by
  have h : Try.prog.funcs[12]? = some Try.f12 := by kernel_rfl
  exact h
theorem ok20 (n : Int) : VCalls gz 20 [.lit (.int .i64 n)] none (fun y _ => y = (if 1 ≤ n ∧ n ≤ 16 then .tup [(Dev.mk (List.replicate n.toNat ByteArray.empty) []).enc true, .lit (.bool true)] else .tup [Dev.none.enc true, .lit (.bool false)])) := by
  refine VCalls.go (nt := 11) (keep := [0, 2, 3, 6]) (muts := []) (mvs := []) [] f20_at rfl (by kernel_rfl) rfl (by kernel_rfl) rfl (fun i h => by cases h) rfl ?_
  intro hok
  simp only [go_sem, Nat.reduceAdd, Nat.reduceSub, Nat.reduceMul, Nat.reduceEqDiff, Nat.reduceBEq, Nat.reduceBNe, Nat.reduceLT, Nat.reduceLeDiff, Int.reduceNeg, Int.reduceAdd, Int.reduceSub, Int.reduceMul, Int.reduceEq, Int.reduceLT, Int.reduceLE, Int.reduceToNat, reduceIte, reduceCtorEq] at hok
  simp only [Try.f20, Func.code, Option.getD_some]
  simp only [go_sem, Nat.reduceAdd, Nat.reduceSub, Nat.reduceMul, Nat.reduceEqDiff, Nat.reduceBEq, Nat.reduceBNe, Nat.reduceLT, Nat.reduceLeDiff, Int.reduceNeg, Int.reduceAdd, Int.reduceSub, Int.reduceMul, Int.reduceEq, Int.reduceLT, Int.reduceLE, Int.reduceToNat, reduceIte, reduceCtorEq]
  refine call_lend ?_
  simp only [go_sem, Nat.reduceAdd, Nat.reduceSub, Nat.reduceMul, Nat.reduceEqDiff, Nat.reduceBEq, Nat.reduceBNe, Nat.reduceLT, Nat.reduceLeDiff, Int.reduceNeg, Int.reduceAdd, Int.reduceSub, Int.reduceMul, Int.reduceEq, Int.reduceLT, Int.reduceLE, Int.reduceToNat, reduceIte, reduceCtorEq]
  refine callN.eq (ok34 _ _ _) (by simp only [go_sem, Nat.reduceAdd, Nat.reduceSub, Nat.reduceMul, Nat.reduceEqDiff, Nat.reduceBEq, Nat.reduceBNe, Nat.reduceLT, Nat.reduceLeDiff, Int.reduceNeg, Int.reduceAdd, Int.reduceSub, Int.reduceMul, Int.reduceEq, Int.reduceLT, Int.reduceLE, Int.reduceToNat, reduceIte, reduceCtorEq]) ?_
  simp only [go_sem, Nat.reduceAdd, Nat.reduceSub, Nat.reduceMul, Nat.reduceEqDiff, Nat.reduceBEq, Nat.reduceBNe, Nat.reduceLT, Nat.reduceLeDiff, Int.reduceNeg, Int.reduceAdd, Int.reduceSub, Int.reduceMul, Int.reduceEq, Int.reduceLT, Int.reduceLE, Int.reduceToNat, reduceIte, reduceCtorEq]
  first | refine branch_ndec (fun h => ?_) (fun h => ?_) | refine branch_dec (fun h => ?_) (fun h => ?_) | refine branch_nbool (fun h => ?_) (fun h => ?_) | refine branch_split (fun h => ?_) (fun h => ?_)
  · simp only [go_sem, Nat.reduceAdd, Nat.reduceSub, Nat.reduceMul, Nat.reduceEqDiff, Nat.reduceBEq, Nat.reduceBNe, Nat.reduceLT, Nat.reduceLeDiff, Int.reduceNeg, Int.reduceAdd, Int.reduceSub, Int.reduceMul, Int.reduceEq, Int.reduceLT, Int.reduceLE, Int.reduceToNat, reduceIte, reduceCtorEq, h]
    refine ⟨by omega, by omega, by omega, ?_⟩
    simp [List.map_replicate, strA]
  · simp only [go_sem, Nat.reduceAdd, Nat.reduceSub, Nat.reduceMul, Nat.reduceEqDiff, Nat.reduceBEq, Nat.reduceBNe, Nat.reduceLT, Nat.reduceLeDiff, Int.reduceNeg, Int.reduceAdd, Int.reduceSub, Int.reduceMul, Int.reduceEq, Int.reduceLT, Int.reduceLE, Int.reduceToNat, reduceIte, reduceCtorEq, h]
    simp [Dev.none]
theorem ok33 (d : Dev) (hd : d.small) : VCalls gz 33 [d.enc false] none (fun y _ => y = d.enc true) := by
  refine VCalls.go (nt := 12) (keep := [0, 1, 2]) (muts := []) (mvs := []) [(1, .tree false (.take 1 (.take 5 (.all (.cons 0 (.all (.cons 2 (.all (.cons 3 (.all (.cons 4 (.all (.cons 6 (.all (.cons 7 (.all (.cons 8 (.all (.cons 9 .done .nil)) .nil)) .nil)) .nil)) (.cons 6 (.all (.cons 4 (.all (.cons 7 (.all (.cons 8 (.all (.cons 9 .done .nil)) .nil)) .nil)) .nil)) .nil))) (.cons 4 (.all (.cons 3 (.all (.cons 6 (.all (.cons 7 (.all (.cons 8 (.all (.cons 9 .done .nil)) .nil)) .nil)) .nil)) (.cons 6 (.all (.cons 3 (.all (.cons 7 (.all (.cons 8 (.all (.cons 9 .done .nil)) .nil)) .nil)) .nil)) .nil))) (.cons 6 (.all (.cons 3 (.all (.cons 4 (.all (.cons 7 (.all (.cons 8 (.all (.cons 9 .done .nil)) .nil)) .nil)) .nil)) (.cons 4 (.all (.cons 3 (.all (.cons 7 (.all (.cons 8 (.all (.cons 9 .done .nil)) .nil)) .nil)) .nil)) .nil))) .nil)))) (.cons 4 (.all (.cons 2 (.all (.cons 3 (.all (.cons 6 (.all (.cons 7 (.all (.cons 8 (.all (.cons 9 .done .nil)) .nil)) .nil)) .nil)) (.cons 6 (.all (.cons 3 (.all (.cons 7 (.all (.cons 8 (.all (.cons 9 .done .nil)) .nil)) .nil)) .nil)) .nil))) (.cons 6 (.all (.cons 2 (.all (.cons 3 (.all (.cons 7 (.all (.cons 8 (.all (.cons 9 .done .nil)) .nil)) .nil)) .nil)) .nil)) .nil))) (.cons 6 (.all (.cons 2 (.all (.cons 3 (.all (.cons 4 (.all (.cons 7 (.all (.cons 8 (.all (.cons 9 .done .nil)) .nil)) .nil)) .nil)) (.cons 4 (.all (.cons 3 (.all (.cons 7 (.all (.cons 8 (.all (.cons 9 .done .nil)) .nil)) .nil)) .nil)) .nil))) (.cons 4 (.all (.cons 2 (.all (.cons 3 (.all (.cons 7 (.all (.cons 8 (.all (.cons 9 .done .nil)) .nil)) .nil)) .nil)) .nil)) .nil))) .nil)))) (.cons 2 (.all (.cons 0 (.all (.cons 3 (.all (.cons 4 (.all (.cons 6 (.all (.cons 7 (.all (.cons 8 (.all (.cons 9 .done .nil)) .nil)) .nil)) .nil)) (.cons 6 (.all (.cons 4 (.all (.cons 7 (.all (.cons 8 (.all (.cons 9 .done .nil)) .nil)) .nil)) .nil)) .nil))) (.cons 4 (.all (.cons 3 (.all (.cons 6 (.all (.cons 7 (.all (.cons 8 (.all (.cons 9 .done .nil)) .nil)) .nil)) .nil)) (.cons 6 (.all (.cons 3 (.all (.cons 7 (.all (.cons 8 (.all (.cons 9 .done .nil)) .nil)) .nil)) .nil)) .nil))) (.cons 6 (.all (.cons 3 (.all (.cons 4 (.all (.cons 7 (.all (.cons 8 (.all (.cons 9 .done .nil)) .nil)) .nil)) .nil)) (.cons 4 (.all (.cons 3 (.all (.cons 7 (.all (.cons 8 (.all (.cons 9 .done .nil)) .nil)) .nil)) .nil)) .nil))) .nil)))) (.cons 4 (.all (.cons 0 (.all (.cons 3 (.all (.cons 6 (.all (.cons 7 (.all (.cons 8 (.all (.cons 9 .done .nil)) .nil)) .nil)) .nil)) (.cons 6 (.all (.cons 3 (.all (.cons 7 (.all (.cons 8 (.all (.cons 9 .done .nil)) .nil)) .nil)) .nil)) .nil))) (.cons 6 (.all (.cons 0 (.all (.cons 3 (.all (.cons 7 (.all (.cons 8 (.all (.cons 9 .done .nil)) .nil)) .nil)) .nil)) .nil)) .nil))) (.cons 6 (.all (.cons 0 (.all (.cons 3 (.all (.cons 4 (.all (.cons 7 (.all (.cons 8 (.all (.cons 9 .done .nil)) .nil)) .nil)) .nil)) (.cons 4 (.all (.cons 3 (.all (.cons 7 (.all (.cons 8 (.all (.cons 9 .done .nil)) .nil)) .nil)) .nil)) .nil))) (.cons 4 (.all (.cons 0 (.all (.cons 3 (.all (.cons 7 (.all (.cons 8 (.all (.cons 9 .done .nil)) .nil)) .nil)) .nil)) .nil)) .nil))) .nil)))) (.cons 4 (.all (.cons 0 (.all (.cons 2 (.all (.cons 3 (.all (.cons 6 (.all (.cons 7 (.all (.cons 8 (.all (.cons 9 .done .nil)) .nil)) .nil)) .nil)) (.cons 6 (.all (.cons 3 (.all (.cons 7 (.all (.cons 8 (.all (.cons 9 .done .nil)) .nil)) .nil)) .nil)) .nil))) (.cons 6 (.all (.cons 2 (.all (.cons 3 (.all (.cons 7 (.all (.cons 8 (.all (.cons 9 .done .nil)) .nil)) .nil)) .nil)) .nil)) .nil))) (.cons 2 (.all (.cons 0 (.all (.cons 3 (.all (.cons 6 (.all (.cons 7 (.all (.cons 8 (.all (.cons 9 .done .nil)) .nil)) .nil)) .nil)) (.cons 6 (.all (.cons 3 (.all (.cons 7 (.all (.cons 8 (.all (.cons 9 .done .nil)) .nil)) .nil)) .nil)) .nil))) (.cons 6 (.all (.cons 0 (.all (.cons 3 (.all (.cons 7 (.all (.cons 8 (.all (.cons 9 .done .nil)) .nil)) .nil)) .nil)) .nil)) .nil))) (.cons 6 (.all (.cons 0 (.all (.cons 2 (.all (.cons 3 (.all (.cons 7 (.all (.cons 8 (.all (.cons 9 .done .nil)) .nil)) .nil)) .nil)) .nil)) (.cons 2 (.all (.cons 0 (.all (.cons 3 (.all (.cons 7 (.all (.cons 8 (.all (.cons 9 .done .nil)) .nil)) .nil)) .nil)) .nil)) .nil))) .nil)))) (.cons 6 (.all (.cons 0 (.all (.cons 2 (.all (.cons 3 (.all (.cons 4 (.all (.cons 7 (.all (.cons 8 (.all (.cons 9 .done .nil)) .nil)) .nil)) .nil)) (.cons 4 (.all (.cons 3 (.all (.cons 7 (.all (.cons 8 (.all (.cons 9 .done .nil)) .nil)) .nil)) .nil)) .nil))) (.cons 4 (.all (.cons 2 (.all (.cons 3 (.all (.cons 7 (.all (.cons 8 (.all (.cons 9 .done .nil)) .nil)) .nil)) .nil)) .nil)) .nil))) (.cons 2 (.all (.cons 0 (.all (.cons 3 (.all (.cons 4 (.all (.cons 7 (.all (.cons 8 (.all (.cons 9 .done .nil)) .nil)) .nil)) .nil)) (.cons 4 (.all (.cons 3 (.all (.cons 7 (.all (.cons 8 (.all (.cons 9 .done .nil)) .nil)) .nil)) .nil)) .nil))) (.cons 4 (.all (.cons 0 (.all (.cons 3 (.all (.cons 7 (.all (.cons 8 (.all (.cons 9 .done .nil)) .nil)) .nil)) .nil)) .nil)) .nil))) (.cons 4 (.all (.cons 0 (.all (.cons 2 (.all (.cons 3 (.all (.cons 7 (.all (.cons 8 (.all (.cons 9 .done .nil)) .nil)) .nil)) .nil)) .nil)) (.cons 2 (.all (.cons 0 (.all (.cons 3 (.all (.cons 7 (.all (.cons 8 (.all (.cons 9 .done .nil)) .nil)) .nil)) .nil)) .nil)) .nil))) .nil)))) .nil))))))))] f33_at rfl (by kernel_rfl) rfl (by kernel_rfl) rfl (fun i h => by cases h) rfl ?_
  intro hok
  simp only [go_sem, Nat.reduceAdd, Nat.reduceSub, Nat.reduceMul, Nat.reduceEqDiff, Nat.reduceBEq, Nat.reduceBNe, Nat.reduceLT, Nat.reduceLeDiff, Int.reduceNeg, Int.reduceAdd, Int.reduceSub, Int.reduceMul, Int.reduceEq, Int.reduceLT, Int.reduceLE, Int.reduceToNat, reduceIte, reduceCtorEq] at hok
  simp only [Try.f33, Func.code, Option.getD_some]
  simp only [go_sem, Nat.reduceAdd, Nat.reduceSub, Nat.reduceMul, Nat.reduceEqDiff, Nat.reduceBEq, Nat.reduceBNe, Nat.reduceLT, Nat.reduceLeDiff, Int.reduceNeg, Int.reduceAdd, Int.reduceSub, Int.reduceMul, Int.reduceEq, Int.reduceLT, Int.reduceLE, Int.reduceToNat, reduceIte, reduceCtorEq]
  simp only [hd.1, hd.2, hok.1.1, hok.2.1, and_self]
theorem ok19 (d : Dev) : VCalls gz 19 [d.enc false] none (fun y _ => y = .lit (.bool d.ok)) := by
  refine VCalls.go (nt := 60) (keep := [0, 1, 2, 3, 4, 5, 20, 23, 32, 37, 59]) (muts := []) (mvs := []) [] f19_at rfl (by kernel_rfl) rfl (by kernel_rfl) rfl (fun i h => by cases h) rfl ?_
  intro hok
  simp only [go_sem, Nat.reduceAdd, Nat.reduceSub, Nat.reduceMul, Nat.reduceEqDiff, Nat.reduceBEq, Nat.reduceBNe, Nat.reduceLT, Nat.reduceLeDiff, Int.reduceNeg, Int.reduceAdd, Int.reduceSub, Int.reduceMul, Int.reduceEq, Int.reduceLT, Int.reduceLE, Int.reduceToNat, reduceIte, reduceCtorEq] at hok
  simp only [Try.f19, Func.code, Option.getD_some]
  simp only [go_sem, Nat.reduceAdd, Nat.reduceSub, Nat.reduceMul, Nat.reduceEqDiff, Nat.reduceBEq, Nat.reduceBNe, Nat.reduceLT, Nat.reduceLeDiff, Int.reduceNeg, Int.reduceAdd, Int.reduceSub, Int.reduceMul, Int.reduceEq, Int.reduceLT, Int.reduceLE, Int.reduceToNat, reduceIte, reduceCtorEq]
  intro hl
  first | refine gj_ndec (fun h1 => ?_) (fun h1 => ?_) | refine gj_dec (fun h1 => ?_) (fun h1 => ?_) | refine gj_nbool (fun h1 => ?_) (fun h1 => ?_) | refine gj_bool (fun h1 => ?_) (fun h1 => ?_)
  · simp only [go_sem, Nat.reduceAdd, Nat.reduceSub, Nat.reduceMul, Nat.reduceEqDiff, Nat.reduceBEq, Nat.reduceBNe, Nat.reduceLT, Nat.reduceLeDiff, Int.reduceNeg, Int.reduceAdd, Int.reduceSub, Int.reduceMul, Int.reduceEq, Int.reduceLT, Int.reduceLE, Int.reduceToNat, reduceIte, reduceCtorEq, h1]
    have h2 : ¬ (1 ≤ (d.secs.length : Int) ∧ (d.secs.length : Int) ≤ 16) := by omega
    simp only [Dev.ok, h2, decide_false, Bool.false_and]
  · simp only [go_sem, Nat.reduceAdd, Nat.reduceSub, Nat.reduceMul, Nat.reduceEqDiff, Nat.reduceBEq, Nat.reduceBNe, Nat.reduceLT, Nat.reduceLeDiff, Int.reduceNeg, Int.reduceAdd, Int.reduceSub, Int.reduceMul, Int.reduceEq, Int.reduceLT, Int.reduceLE, Int.reduceToNat, reduceIte, reduceCtorEq, h1]
    first | refine gj_ndec (fun h2 => ?_) (fun h2 => ?_) | refine gj_dec (fun h2 => ?_) (fun h2 => ?_) | refine gj_nbool (fun h2 => ?_) (fun h2 => ?_) | refine gj_bool (fun h2 => ?_) (fun h2 => ?_)
    · simp only [go_sem, Nat.reduceAdd, Nat.reduceSub, Nat.reduceMul, Nat.reduceEqDiff, Nat.reduceBEq, Nat.reduceBNe, Nat.reduceLT, Nat.reduceLeDiff, Int.reduceNeg, Int.reduceAdd, Int.reduceSub, Int.reduceMul, Int.reduceEq, Int.reduceLT, Int.reduceLE, Int.reduceToNat, reduceIte, reduceCtorEq, h2]
      have h3 : ¬ (1 ≤ (d.secs.length : Int) ∧ (d.secs.length : Int) ≤ 16) := by omega
      simp only [Dev.ok, h3, decide_false, Bool.false_and]
    · simp only [go_sem, Nat.reduceAdd, Nat.reduceSub, Nat.reduceMul, Nat.reduceEqDiff, Nat.reduceBEq, Nat.reduceBNe, Nat.reduceLT, Nat.reduceLeDiff, Int.reduceNeg, Int.reduceAdd, Int.reduceSub, Int.reduceMul, Int.reduceEq, Int.reduceLT, Int.reduceLE, Int.reduceToNat, reduceIte, reduceCtorEq, h2]
      intro hl2
      first | refine branch_ndec (fun h3 => ?_) (fun h3 => ?_) | refine branch_dec (fun h3 => ?_) (fun h3 => ?_) | refine branch_nbool (fun h3 => ?_) (fun h3 => ?_) | refine branch_split (fun h3 => ?_) (fun h3 => ?_)
      · simp only [go_sem, Nat.reduceAdd, Nat.reduceSub, Nat.reduceMul, Nat.reduceEqDiff, Nat.reduceBEq, Nat.reduceBNe, Nat.reduceLT, Nat.reduceLeDiff, Int.reduceNeg, Int.reduceAdd, Int.reduceSub, Int.reduceMul, Int.reduceEq, Int.reduceLT, Int.reduceLE, Int.reduceToNat, reduceIte, reduceCtorEq]
        have h4 : ¬ ((d.late.length : Int) ≤ 30) := by omega
        simp only [Dev.ok, h4, decide_false, Bool.and_false, Bool.false_and]
      · simp only [go_sem, Nat.reduceAdd, Nat.reduceSub, Nat.reduceMul, Nat.reduceEqDiff, Nat.reduceBEq, Nat.reduceBNe, Nat.reduceLT, Nat.reduceLeDiff, Int.reduceNeg, Int.reduceAdd, Int.reduceSub, Int.reduceMul, Int.reduceEq, Int.reduceLT, Int.reduceLE, Int.reduceToNat, reduceIte, reduceCtorEq]
        refine vm_loopK (α := Nat) (fun i => [(1, .ptr true (d.enc false)), (3, .lit (.int .i64 d.secs.length)), (4, .lit (.int .i64 i))]) (fun i => i ≤ d.secs.length ∧ ∀ s ∈ d.secs.take i, decide (400 < (s.size : Int)) = false) (fun i => d.secs.length - i) 0 ?_ ⟨by omega, by simp⟩ (by kernel_rfl) (fun _ => rfl) ?_
        · simp only [go_sem, Nat.reduceAdd, Nat.reduceSub, Nat.reduceMul, Nat.reduceEqDiff, Nat.reduceBEq, Nat.reduceBNe, Nat.reduceLT, Nat.reduceLeDiff, Int.reduceNeg, Int.reduceAdd, Int.reduceSub, Int.reduceMul, Int.reduceEq, Int.reduceLT, Int.reduceLE, Int.reduceToNat, reduceIte, reduceCtorEq]
          trivial
        · intro i hi _
          simp only [go_sem, Nat.reduceAdd, Nat.reduceSub, Nat.reduceMul, Nat.reduceEqDiff, Nat.reduceBEq, Nat.reduceBNe, Nat.reduceLT, Nat.reduceLeDiff, Int.reduceNeg, Int.reduceAdd, Int.reduceSub, Int.reduceMul, Int.reduceEq, Int.reduceLT, Int.reduceLE, Int.reduceToNat, reduceIte, reduceCtorEq]
          first | refine branch_ndec (fun h => ?_) (fun h => ?_) | refine branch_dec (fun h => ?_) (fun h => ?_) | refine branch_nbool (fun h => ?_) (fun h => ?_) | refine branch_split (fun h => ?_) (fun h => ?_)
          · have hlt : i < d.secs.length := by omega
            simp only [go_sem, Nat.reduceAdd, Nat.reduceSub, Nat.reduceMul, Nat.reduceEqDiff, Nat.reduceBEq, Nat.reduceBNe, Nat.reduceLT, Nat.reduceLeDiff, Int.reduceNeg, Int.reduceAdd, Int.reduceSub, Int.reduceMul, Int.reduceEq, Int.reduceLT, Int.reduceLE, Int.reduceToNat, reduceIte, reduceCtorEq]
            refine ⟨by omega, by omega, hlt, ?_⟩
            intro _
            first | refine branch_ndec (fun h4 => ?_) (fun h4 => ?_) | refine branch_dec (fun h4 => ?_) (fun h4 => ?_) | refine branch_nbool (fun h4 => ?_) (fun h4 => ?_) | refine branch_split (fun h4 => ?_) (fun h4 => ?_)
            · simp only [go_sem, Nat.reduceAdd, Nat.reduceSub, Nat.reduceMul, Nat.reduceEqDiff, Nat.reduceBEq, Nat.reduceBNe, Nat.reduceLT, Nat.reduceLeDiff, Int.reduceNeg, Int.reduceAdd, Int.reduceSub, Int.reduceMul, Int.reduceEq, Int.reduceLT, Int.reduceLE, Int.reduceToNat, reduceIte, reduceCtorEq]
              have h5 : (d.secs.any fun s => decide (400 < (s.size : Int))) = true := List.any_eq_true.2 ⟨_, getD_mem hlt, decide_eq_true h4⟩
              simp only [Dev.ok, h5, Bool.not_true, Bool.and_false, Bool.false_and]
            · try simp only [go_sem, Nat.reduceAdd, Nat.reduceSub, Nat.reduceMul, Nat.reduceEqDiff, Nat.reduceBEq, Nat.reduceBNe, Nat.reduceLT, Nat.reduceLeDiff, Int.reduceNeg, Int.reduceAdd, Int.reduceSub, Int.reduceMul, Int.reduceEq, Int.reduceLT, Int.reduceLE, Int.reduceToNat, reduceIte, reduceCtorEq]
              simp (disch := omega) only [wrap64, wrapU64, wrapU32, wrapU8]
              refine again_intro (i + 1) ⟨by omega, ?_⟩ (by omega) ?_
              · intro x hx
                rw [take_succ_getD hlt, List.mem_append] at hx
                rcases hx with hx | hx
                · exact hi.2 x hx
                · simp only [List.mem_singleton] at hx
                  rw [hx]
                  exact decide_eq_false h4
              · simp only [go_sem, Nat.reduceAdd, Nat.reduceSub, Nat.reduceMul, Nat.reduceEqDiff, Nat.reduceBEq, Nat.reduceBNe, Nat.reduceLT, Nat.reduceLeDiff, Int.reduceNeg, Int.reduceAdd, Int.reduceSub, Int.reduceMul, Int.reduceEq, Int.reduceLT, Int.reduceLE, Int.reduceToNat, reduceIte, reduceCtorEq]
                omega
          · have hie : i = d.secs.length := by omega
            have hsec : (d.secs.any fun s => decide (400 < (s.size : Int))) = false := by
              have := hi.2
              rw [hie, List.take_length] at this
              exact List.any_eq_false.2 fun x hx => by rw [this x hx]; simp
            simp only [go_sem, Nat.reduceAdd, Nat.reduceSub, Nat.reduceMul, Nat.reduceEqDiff, Nat.reduceBEq, Nat.reduceBNe, Nat.reduceLT, Nat.reduceLeDiff, Int.reduceNeg, Int.reduceAdd, Int.reduceSub, Int.reduceMul, Int.reduceEq, Int.reduceLT, Int.reduceLE, Int.reduceToNat, reduceIte, reduceCtorEq]
            refine vm_loopK (α := Nat) (fun i => [(1, .ptr true (d.enc false)), (3, .lit (.int .i64 d.secs.length)), (5, .lit (.int .i64 i))]) (fun i => i ≤ d.late.length ∧ ∀ p ∈ d.late.take i, d.fits p.place p.text = true) (fun i => d.late.length - i) 0 ?_ ⟨by omega, by simp⟩ (by kernel_rfl) (fun _ => rfl) ?_
            · simp only [go_sem, Nat.reduceAdd, Nat.reduceSub, Nat.reduceMul, Nat.reduceEqDiff, Nat.reduceBEq, Nat.reduceBNe, Nat.reduceLT, Nat.reduceLeDiff, Int.reduceNeg, Int.reduceAdd, Int.reduceSub, Int.reduceMul, Int.reduceEq, Int.reduceLT, Int.reduceLE, Int.reduceToNat, reduceIte, reduceCtorEq]
              trivial
            · intro j hj _
              simp only [go_sem, Nat.reduceAdd, Nat.reduceSub, Nat.reduceMul, Nat.reduceEqDiff, Nat.reduceBEq, Nat.reduceBNe, Nat.reduceLT, Nat.reduceLeDiff, Int.reduceNeg, Int.reduceAdd, Int.reduceSub, Int.reduceMul, Int.reduceEq, Int.reduceLT, Int.reduceLE, Int.reduceToNat, reduceIte, reduceCtorEq]
              intro _
              first | refine branch_ndec (fun h7 => ?_) (fun h7 => ?_) | refine branch_dec (fun h7 => ?_) (fun h7 => ?_) | refine branch_nbool (fun h7 => ?_) (fun h7 => ?_) | refine branch_split (fun h7 => ?_) (fun h7 => ?_)
              · have hlt : j < d.late.length := by omega
                try simp only [go_sem, Nat.reduceAdd, Nat.reduceSub, Nat.reduceMul, Nat.reduceEqDiff, Nat.reduceBEq, Nat.reduceBNe, Nat.reduceLT, Nat.reduceLeDiff, Int.reduceNeg, Int.reduceAdd, Int.reduceSub, Int.reduceMul, Int.reduceEq, Int.reduceLT, Int.reduceLE, Int.reduceToNat, reduceIte, reduceCtorEq]
                simp (disch := omega) only [wrap64, wrapU64, wrapU32, wrapU8]
                refine ⟨by omega, by omega, hlt, ?_⟩
                refine call_lend ?_
                simp only [go_sem, Nat.reduceAdd, Nat.reduceSub, Nat.reduceMul, Nat.reduceEqDiff, Nat.reduceBEq, Nat.reduceBNe, Nat.reduceLT, Nat.reduceLeDiff, Int.reduceNeg, Int.reduceAdd, Int.reduceSub, Int.reduceMul, Int.reduceEq, Int.reduceLT, Int.reduceLE, Int.reduceToNat, reduceIte, reduceCtorEq]
                refine callN.eq (ok34 _ _ _) (by simp only [go_sem, Nat.reduceAdd, Nat.reduceSub, Nat.reduceMul, Nat.reduceEqDiff, Nat.reduceBEq, Nat.reduceBNe, Nat.reduceLT, Nat.reduceLeDiff, Int.reduceNeg, Int.reduceAdd, Int.reduceSub, Int.reduceMul, Int.reduceEq, Int.reduceLT, Int.reduceLE, Int.reduceToNat, reduceIte, reduceCtorEq]) ?_
                simp only [go_sem, Nat.reduceAdd, Nat.reduceSub, Nat.reduceMul, Nat.reduceEqDiff, Nat.reduceBEq, Nat.reduceBNe, Nat.reduceLT, Nat.reduceLeDiff, Int.reduceNeg, Int.reduceAdd, Int.reduceSub, Int.reduceMul, Int.reduceEq, Int.reduceLT, Int.reduceLE, Int.reduceToNat, reduceIte, reduceCtorEq]
                first | refine gj_ndec (fun h8 => ?_) (fun h8 => ?_) | refine gj_dec (fun h8 => ?_) (fun h8 => ?_) | refine gj_nbool (fun h8 => ?_) (fun h8 => ?_) | refine gj_bool (fun h8 => ?_) (fun h8 => ?_)
                · simp only [go_sem, Nat.reduceAdd, Nat.reduceSub, Nat.reduceMul, Nat.reduceEqDiff, Nat.reduceBEq, Nat.reduceBNe, Nat.reduceLT, Nat.reduceLeDiff, Int.reduceNeg, Int.reduceAdd, Int.reduceSub, Int.reduceMul, Int.reduceEq, Int.reduceLT, Int.reduceLE, Int.reduceToNat, reduceIte, reduceCtorEq, h8]
                  refine ⟨by omega, by omega, hlt, ?_⟩
                  intro _
                  first | refine branch_ndec (fun h9 => ?_) (fun h9 => ?_) | refine branch_dec (fun h9 => ?_) (fun h9 => ?_) | refine branch_nbool (fun h9 => ?_) (fun h9 => ?_) | refine branch_split (fun h9 => ?_) (fun h9 => ?_)
                  · simp only [go_sem, Nat.reduceAdd, Nat.reduceSub, Nat.reduceMul, Nat.reduceEqDiff, Nat.reduceBEq, Nat.reduceBNe, Nat.reduceLT, Nat.reduceLeDiff, Int.reduceNeg, Int.reduceAdd, Int.reduceSub, Int.reduceMul, Int.reduceEq, Int.reduceLT, Int.reduceLE, Int.reduceToNat, reduceIte, reduceCtorEq]
                    have h5 : (d.late.any fun p => !d.fits p.place p.text) = true := List.any_eq_true.2 ⟨_, getD_mem hlt, by
                      have : ¬ ((d.late.getD j default).text.size : Int) ≤ 400 := by omega
                      simp only [Dev.fits, this, decide_false, Bool.and_false, Bool.not_false]⟩
                    simp only [Dev.ok, h5, Bool.not_true, Bool.and_false]
                  · try simp only [go_sem, Nat.reduceAdd, Nat.reduceSub, Nat.reduceMul, Nat.reduceEqDiff, Nat.reduceBEq, Nat.reduceBNe, Nat.reduceLT, Nat.reduceLeDiff, Int.reduceNeg, Int.reduceAdd, Int.reduceSub, Int.reduceMul, Int.reduceEq, Int.reduceLT, Int.reduceLE, Int.reduceToNat, reduceIte, reduceCtorEq]
                    simp (disch := omega) only [wrap64, wrapU64, wrapU32, wrapU8]
                    refine again_intro (j + 1) ⟨by omega, ?_⟩ (by omega) ?_
                    · intro x hx
                      rw [take_succ_getD hlt, List.mem_append] at hx
                      rcases hx with hx | hx
                      · exact hj.2 x hx
                      · simp only [List.mem_singleton] at hx
                        rw [hx]
                        have : ((d.late.getD j default).text.size : Int) ≤ 400 := by omega
                        simp only [Dev.fits, this, h8, and_self, decide_true, Bool.and_self]
                    · simp only [go_sem, Nat.reduceAdd, Nat.reduceSub, Nat.reduceMul, Nat.reduceEqDiff, Nat.reduceBEq, Nat.reduceBNe, Nat.reduceLT, Nat.reduceLeDiff, Int.reduceNeg, Int.reduceAdd, Int.reduceSub, Int.reduceMul, Int.reduceEq, Int.reduceLT, Int.reduceLE, Int.reduceToNat, reduceIte, reduceCtorEq]
                      omega
                · simp only [go_sem, Nat.reduceAdd, Nat.reduceSub, Nat.reduceMul, Nat.reduceEqDiff, Nat.reduceBEq, Nat.reduceBNe, Nat.reduceLT, Nat.reduceLeDiff, Int.reduceNeg, Int.reduceAdd, Int.reduceSub, Int.reduceMul, Int.reduceEq, Int.reduceLT, Int.reduceLE, Int.reduceToNat, reduceIte, reduceCtorEq, h8]
                  have h5 : (d.late.any fun p => !d.fits p.place p.text) = true := List.any_eq_true.2 ⟨_, getD_mem hlt, by
                    simp only [Dev.fits, h8, decide_false, Bool.false_and, Bool.not_false]⟩
                  simp only [Dev.ok, h5, Bool.not_true, Bool.and_false]
              · have hje : j = d.late.length := by omega
                simp only [go_sem, Nat.reduceAdd, Nat.reduceSub, Nat.reduceMul, Nat.reduceEqDiff, Nat.reduceBEq, Nat.reduceBNe, Nat.reduceLT, Nat.reduceLeDiff, Int.reduceNeg, Int.reduceAdd, Int.reduceSub, Int.reduceMul, Int.reduceEq, Int.reduceLT, Int.reduceLE, Int.reduceToNat, reduceIte, reduceCtorEq]
                have h5 : (d.late.any fun p => !d.fits p.place p.text) = false := by
                  have := hj.2
                  rw [hje, List.take_length] at this
                  exact List.any_eq_false.2 fun x hx => by rw [this x hx]; simp
                have h6 : 1 ≤ (d.secs.length : Int) ∧ (d.secs.length : Int) ≤ 16 := by omega
                have h10 : ((d.late.length : Int) ≤ 30) := by omega
                simp only [Dev.ok, h5, hsec, h6, h10, and_self, decide_true, Bool.not_false, Bool.and_self]
theorem ok12 (d : Dev) (hd : d.small) (a : Int) (t : ByteArray) : VCalls gz 12 [d.enc false, .lit (.int .i64 a), .lit (.string t)] none (fun y _ => y = .tup [(d.lay a t).1.enc true, .lit (.bool (d.lay a t).2)]) := by
  refine VCalls.go (nt := 43) (keep := [0, 1, 2, 3, 6, 7, 8, 11, 32]) (muts := []) (mvs := [5,7]) [] f12_at rfl (by kernel_rfl) rfl (by kernel_rfl) rfl (fun i h => by cases h) rfl ?_
  intro hok
  simp only [go_sem, Nat.reduceAdd, Nat.reduceSub, Nat.reduceMul, Nat.reduceEqDiff, Nat.reduceBEq, Nat.reduceBNe, Nat.reduceLT, Nat.reduceLeDiff, Int.reduceNeg, Int.reduceAdd, Int.reduceSub, Int.reduceMul, Int.reduceEq, Int.reduceLT, Int.reduceLE, Int.reduceToNat, reduceIte, reduceCtorEq] at hok
  simp only [Try.f12, Func.code, Option.getD_some]
  simp only [go_sem, Nat.reduceAdd, Nat.reduceSub, Nat.reduceMul, Nat.reduceEqDiff, Nat.reduceBEq, Nat.reduceBNe, Nat.reduceLT, Nat.reduceLeDiff, Int.reduceNeg, Int.reduceAdd, Int.reduceSub, Int.reduceMul, Int.reduceEq, Int.reduceLT, Int.reduceLE, Int.reduceToNat, reduceIte, reduceCtorEq]
  refine call_lend ?_
  simp only [go_sem, Nat.reduceAdd, Nat.reduceSub, Nat.reduceMul, Nat.reduceEqDiff, Nat.reduceBEq, Nat.reduceBNe, Nat.reduceLT, Nat.reduceLeDiff, Int.reduceNeg, Int.reduceAdd, Int.reduceSub, Int.reduceMul, Int.reduceEq, Int.reduceLT, Int.reduceLE, Int.reduceToNat, reduceIte, reduceCtorEq]
  refine callN.eq (ok19 d) (by simp only [go_sem, Nat.reduceAdd, Nat.reduceSub, Nat.reduceMul, Nat.reduceEqDiff, Nat.reduceBEq, Nat.reduceBNe, Nat.reduceLT, Nat.reduceLeDiff, Int.reduceNeg, Int.reduceAdd, Int.reduceSub, Int.reduceMul, Int.reduceEq, Int.reduceLT, Int.reduceLE, Int.reduceToNat, reduceIte, reduceCtorEq]) ?_
  simp only [go_sem, Nat.reduceAdd, Nat.reduceSub, Nat.reduceMul, Nat.reduceEqDiff, Nat.reduceBEq, Nat.reduceBNe, Nat.reduceLT, Nat.reduceLeDiff, Int.reduceNeg, Int.reduceAdd, Int.reduceSub, Int.reduceMul, Int.reduceEq, Int.reduceLT, Int.reduceLE, Int.reduceToNat, reduceIte, reduceCtorEq]
  first | refine branch_ndec (fun h1 => ?_) (fun h1 => ?_) | refine branch_dec (fun h1 => ?_) (fun h1 => ?_) | refine branch_nbool (fun h1 => ?_) (fun h1 => ?_) | refine branch_split (fun h1 => ?_) (fun h1 => ?_)
  · simp only [go_sem, Nat.reduceAdd, Nat.reduceSub, Nat.reduceMul, Nat.reduceEqDiff, Nat.reduceBEq, Nat.reduceBNe, Nat.reduceLT, Nat.reduceLeDiff, Int.reduceNeg, Int.reduceAdd, Int.reduceSub, Int.reduceMul, Int.reduceEq, Int.reduceLT, Int.reduceLE, Int.reduceToNat, reduceIte, reduceCtorEq]
    refine call_lend ?_
    simp only [go_sem, Nat.reduceAdd, Nat.reduceSub, Nat.reduceMul, Nat.reduceEqDiff, Nat.reduceBEq, Nat.reduceBNe, Nat.reduceLT, Nat.reduceLeDiff, Int.reduceNeg, Int.reduceAdd, Int.reduceSub, Int.reduceMul, Int.reduceEq, Int.reduceLT, Int.reduceLE, Int.reduceToNat, reduceIte, reduceCtorEq]
    refine callN.eq (ok33 d hd) (by simp only [go_sem, Nat.reduceAdd, Nat.reduceSub, Nat.reduceMul, Nat.reduceEqDiff, Nat.reduceBEq, Nat.reduceBNe, Nat.reduceLT, Nat.reduceLeDiff, Int.reduceNeg, Int.reduceAdd, Int.reduceSub, Int.reduceMul, Int.reduceEq, Int.reduceLT, Int.reduceLE, Int.reduceToNat, reduceIte, reduceCtorEq]) ?_
    simp only [go_sem, Nat.reduceAdd, Nat.reduceSub, Nat.reduceMul, Nat.reduceEqDiff, Nat.reduceBEq, Nat.reduceBNe, Nat.reduceLT, Nat.reduceLeDiff, Int.reduceNeg, Int.reduceAdd, Int.reduceSub, Int.reduceMul, Int.reduceEq, Int.reduceLT, Int.reduceLE, Int.reduceToNat, reduceIte, reduceCtorEq]
    intro hl
    try simp only [go_sem, Nat.reduceAdd, Nat.reduceSub, Nat.reduceMul, Nat.reduceEqDiff, Nat.reduceBEq, Nat.reduceBNe, Nat.reduceLT, Nat.reduceLeDiff, Int.reduceNeg, Int.reduceAdd, Int.reduceSub, Int.reduceMul, Int.reduceEq, Int.reduceLT, Int.reduceLE, Int.reduceToNat, reduceIte, reduceCtorEq]
    simp (disch := omega) only [wrap64, wrapU64, wrapU32, wrapU8]
    refine call_lend ?_
    simp only [go_sem, Nat.reduceAdd, Nat.reduceSub, Nat.reduceMul, Nat.reduceEqDiff, Nat.reduceBEq, Nat.reduceBNe, Nat.reduceLT, Nat.reduceLeDiff, Int.reduceNeg, Int.reduceAdd, Int.reduceSub, Int.reduceMul, Int.reduceEq, Int.reduceLT, Int.reduceLE, Int.reduceToNat, reduceIte, reduceCtorEq]
    refine callN.eq (ok34 _ _ _) (by simp only [go_sem, Nat.reduceAdd, Nat.reduceSub, Nat.reduceMul, Nat.reduceEqDiff, Nat.reduceBEq, Nat.reduceBNe, Nat.reduceLT, Nat.reduceLeDiff, Int.reduceNeg, Int.reduceAdd, Int.reduceSub, Int.reduceMul, Int.reduceEq, Int.reduceLT, Int.reduceLE, Int.reduceToNat, reduceIte, reduceCtorEq]) ?_
    simp only [go_sem, Nat.reduceAdd, Nat.reduceSub, Nat.reduceMul, Nat.reduceEqDiff, Nat.reduceBEq, Nat.reduceBNe, Nat.reduceLT, Nat.reduceLeDiff, Int.reduceNeg, Int.reduceAdd, Int.reduceSub, Int.reduceMul, Int.reduceEq, Int.reduceLT, Int.reduceLE, Int.reduceToNat, reduceIte, reduceCtorEq]
    first | refine gj_ndec (fun h2 => ?_) (fun h2 => ?_) | refine gj_dec (fun h2 => ?_) (fun h2 => ?_) | refine gj_nbool (fun h2 => ?_) (fun h2 => ?_) | refine gj_bool (fun h2 => ?_) (fun h2 => ?_)
    · simp only [go_sem, Nat.reduceAdd, Nat.reduceSub, Nat.reduceMul, Nat.reduceEqDiff, Nat.reduceBEq, Nat.reduceBNe, Nat.reduceLT, Nat.reduceLeDiff, Int.reduceNeg, Int.reduceAdd, Int.reduceSub, Int.reduceMul, Int.reduceEq, Int.reduceLT, Int.reduceLE, Int.reduceToNat, reduceIte, reduceCtorEq, h2]
      intro h3
      first | refine gj_ndec (fun h4 => ?_) (fun h4 => ?_) | refine gj_dec (fun h4 => ?_) (fun h4 => ?_) | refine gj_nbool (fun h4 => ?_) (fun h4 => ?_) | refine gj_bool (fun h4 => ?_) (fun h4 => ?_)
      · simp only [go_sem, Nat.reduceAdd, Nat.reduceSub, Nat.reduceMul, Nat.reduceEqDiff, Nat.reduceBEq, Nat.reduceBNe, Nat.reduceLT, Nat.reduceLeDiff, Int.reduceNeg, Int.reduceAdd, Int.reduceSub, Int.reduceMul, Int.reduceEq, Int.reduceLT, Int.reduceLE, Int.reduceToNat, reduceIte, reduceCtorEq, h4]
        have h5 : d.fits a t = false := by
          have : ¬ ((t.size : Int) ≤ 400) := by omega
          simp only [Dev.fits, this, decide_false, Bool.and_false]
        simp only [Dev.lay, h1, h5, if_true, Bool.false_eq_true, false_and, if_false, and_self]
      · simp only [go_sem, Nat.reduceAdd, Nat.reduceSub, Nat.reduceMul, Nat.reduceEqDiff, Nat.reduceBEq, Nat.reduceBNe, Nat.reduceLT, Nat.reduceLeDiff, Int.reduceNeg, Int.reduceAdd, Int.reduceSub, Int.reduceMul, Int.reduceEq, Int.reduceLT, Int.reduceLE, Int.reduceToNat, reduceIte, reduceCtorEq, h4]
        intro h6
        have h5 : d.fits a t = true := by
          have : ((t.size : Int) ≤ 400) := by omega
          simp only [Dev.fits, this, h2, and_self, decide_true, Bool.and_true]
        first | refine branch_ndec (fun h7 => ?_) (fun h7 => ?_) | refine branch_dec (fun h7 => ?_) (fun h7 => ?_) | refine branch_nbool (fun h7 => ?_) (fun h7 => ?_) | refine branch_split (fun h7 => ?_) (fun h7 => ?_)
        · simp only [go_sem, Nat.reduceAdd, Nat.reduceSub, Nat.reduceMul, Nat.reduceEqDiff, Nat.reduceBEq, Nat.reduceBNe, Nat.reduceLT, Nat.reduceLeDiff, Int.reduceNeg, Int.reduceAdd, Int.reduceSub, Int.reduceMul, Int.reduceEq, Int.reduceLT, Int.reduceLE, Int.reduceToNat, reduceIte, reduceCtorEq]
          have h8 : d.late.length = 30 := by omega
          simp only [Dev.lay, h1, h5, h8, if_true, not_true_eq_false, and_false, if_false, and_self]
        · simp only [go_sem, Nat.reduceAdd, Nat.reduceSub, Nat.reduceMul, Nat.reduceEqDiff, Nat.reduceBEq, Nat.reduceBNe, Nat.reduceLT, Nat.reduceLeDiff, Int.reduceNeg, Int.reduceAdd, Int.reduceSub, Int.reduceMul, Int.reduceEq, Int.reduceLT, Int.reduceLE, Int.reduceToNat, reduceIte, reduceCtorEq]
          have h8 : ¬ d.late.length = 30 := by omega
          have h9 := hd.2
          have h10 : d.late.length ≤ 30 := by
            have := h1
            simp only [Dev.ok, Bool.and_eq_true, decide_eq_true_eq] at this
            omega
          simp only [Dev.lay, h1, h5, h8, if_true, not_false_eq_true, and_self, and_true]
          simp only [go_sem, Nat.reduceAdd, Nat.reduceSub, Nat.reduceMul, Nat.reduceEqDiff, Nat.reduceBEq, Nat.reduceBNe, Nat.reduceLT, Nat.reduceLeDiff, Int.reduceNeg, Int.reduceAdd, Int.reduceSub, Int.reduceMul, Int.reduceEq, Int.reduceLT, Int.reduceLE, Int.reduceToNat, reduceIte, reduceCtorEq]
          omega
    · simp only [go_sem, Nat.reduceAdd, Nat.reduceSub, Nat.reduceMul, Nat.reduceEqDiff, Nat.reduceBEq, Nat.reduceBNe, Nat.reduceLT, Nat.reduceLeDiff, Int.reduceNeg, Int.reduceAdd, Int.reduceSub, Int.reduceMul, Int.reduceEq, Int.reduceLT, Int.reduceLE, Int.reduceToNat, reduceIte, reduceCtorEq, h2]
      have h5 : d.fits a t = false := by simp only [Dev.fits, h2, decide_false, Bool.false_and]
      simp only [Dev.lay, h1, h5, if_true, Bool.false_eq_true, false_and, if_false, and_self]
  · simp only [go_sem, Nat.reduceAdd, Nat.reduceSub, Nat.reduceMul, Nat.reduceEqDiff, Nat.reduceBEq, Nat.reduceBNe, Nat.reduceLT, Nat.reduceLeDiff, Int.reduceNeg, Int.reduceAdd, Int.reduceSub, Int.reduceMul, Int.reduceEq, Int.reduceLT, Int.reduceLE, Int.reduceToNat, reduceIte, reduceCtorEq]
    simp only [Dev.lay, h1, Bool.false_eq_true, if_false, Dev.none, List.map_nil, and_self]
end Go.VS
