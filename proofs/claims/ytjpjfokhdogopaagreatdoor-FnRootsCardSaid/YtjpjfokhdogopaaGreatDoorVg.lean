/- VS: functions by the machine. -/
import Derived.Test.YtjpjfokhdogopaaGreatDoorVf
set_option linter.unusedSimpArgs false
set_option linter.unusedVariables false
open Go.Proofs
set_option maxRecDepth 20000
namespace Go.VS
theorem f252_at : gz.P.funcs[252]? = some Tryz.f252 := by
  have h : Tryz.prog.funcs[252]? = some Tryz.f252 := by kernel_rfl
  exact h
theorem f111_at : gz.P.funcs[111]? = some Tryz.f111 := by
  have h : Tryz.prog.funcs[111]? = some Tryz.f111 := by kernel_rfl
  exact h
theorem f109_at : gz.P.funcs[109]? = some Tryz.f109 := by
  have h : Tryz.prog.funcs[109]? = some Tryz.f109 := by kernel_rfl
  exact h
theorem f206_at : gz.P.funcs[206]? = some Tryz.f206 := by
  have h : Tryz.prog.funcs[206]? = some Tryz.f206 := by kernel_rfl
  exact h
theorem ok252 (n : Int) : VCalls gz 252 [.lit (.int .i64 n)] none (fun y _ => y = (if 1 ≤ n ∧ n ≤ 16 then .tup [(Dev.mk (List.replicate n.toNat ByteArray.empty) []).enc true, .lit (.bool true)] else .tup [Dev.none.enc true, .lit (.bool false)])) := by
  refine VCalls.go (nt := 11) (keep := [0, 2, 3, 6]) (muts := []) (mvs := []) [] f252_at rfl (by kernel_rfl) rfl (by kernel_rfl) rfl (fun i h => by cases h) rfl ?_
  intro hok
  simp only [go_sem, Nat.reduceAdd, Nat.reduceSub, Nat.reduceMul, Nat.reduceEqDiff, Nat.reduceBEq, Nat.reduceBNe, Nat.reduceLT, Nat.reduceLeDiff, Int.reduceNeg, Int.reduceAdd, Int.reduceSub, Int.reduceMul, Int.reduceEq, Int.reduceLT, Int.reduceLE, Int.reduceToNat, reduceIte, reduceCtorEq] at hok
  simp only [Tryz.f252, Func.code, Option.getD_some]
  simp only [go_sem, Nat.reduceAdd, Nat.reduceSub, Nat.reduceMul, Nat.reduceEqDiff, Nat.reduceBEq, Nat.reduceBNe, Nat.reduceLT, Nat.reduceLeDiff, Int.reduceNeg, Int.reduceAdd, Int.reduceSub, Int.reduceMul, Int.reduceEq, Int.reduceLT, Int.reduceLE, Int.reduceToNat, reduceIte, reduceCtorEq]
  refine call_lend ?_
  simp only [go_sem, Nat.reduceAdd, Nat.reduceSub, Nat.reduceMul, Nat.reduceEqDiff, Nat.reduceBEq, Nat.reduceBNe, Nat.reduceLT, Nat.reduceLeDiff, Int.reduceNeg, Int.reduceAdd, Int.reduceSub, Int.reduceMul, Int.reduceEq, Int.reduceLT, Int.reduceLE, Int.reduceToNat, reduceIte, reduceCtorEq]
  refine callN.eq (ok76 _ _ _) (by simp only [go_sem, Nat.reduceAdd, Nat.reduceSub, Nat.reduceMul, Nat.reduceEqDiff, Nat.reduceBEq, Nat.reduceBNe, Nat.reduceLT, Nat.reduceLeDiff, Int.reduceNeg, Int.reduceAdd, Int.reduceSub, Int.reduceMul, Int.reduceEq, Int.reduceLT, Int.reduceLE, Int.reduceToNat, reduceIte, reduceCtorEq]) ?_
  simp only [go_sem, Nat.reduceAdd, Nat.reduceSub, Nat.reduceMul, Nat.reduceEqDiff, Nat.reduceBEq, Nat.reduceBNe, Nat.reduceLT, Nat.reduceLeDiff, Int.reduceNeg, Int.reduceAdd, Int.reduceSub, Int.reduceMul, Int.reduceEq, Int.reduceLT, Int.reduceLE, Int.reduceToNat, reduceIte, reduceCtorEq]
  first | refine branch_ndec (fun h => ?_) (fun h => ?_) | refine branch_dec (fun h => ?_) (fun h => ?_) | refine branch_nbool (fun h => ?_) (fun h => ?_) | refine branch_split (fun h => ?_) (fun h => ?_)
  · simp only [go_sem, Nat.reduceAdd, Nat.reduceSub, Nat.reduceMul, Nat.reduceEqDiff, Nat.reduceBEq, Nat.reduceBNe, Nat.reduceLT, Nat.reduceLeDiff, Int.reduceNeg, Int.reduceAdd, Int.reduceSub, Int.reduceMul, Int.reduceEq, Int.reduceLT, Int.reduceLE, Int.reduceToNat, reduceIte, reduceCtorEq, h]
    refine ⟨by omega, by omega, by omega, ?_⟩
    simp [List.map_replicate, strA]
  · simp only [go_sem, Nat.reduceAdd, Nat.reduceSub, Nat.reduceMul, Nat.reduceEqDiff, Nat.reduceBEq, Nat.reduceBNe, Nat.reduceLT, Nat.reduceLeDiff, Int.reduceNeg, Int.reduceAdd, Int.reduceSub, Int.reduceMul, Int.reduceEq, Int.reduceLT, Int.reduceLE, Int.reduceToNat, reduceIte, reduceCtorEq, h]
    simp [Dev.none]
theorem ok111 (d : Dev) (hd : d.small) : VCalls gz 111 [d.enc false] none (fun y _ => y = d.enc true) := by
  refine VCalls.go (nt := 12) (keep := [0, 1, 2]) (muts := []) (mvs := []) [(1, .tree false (.take 1 (.take 5 (.all (.cons 0 (.all (.cons 2 (.all (.cons 3 (.all (.cons 4 (.all (.cons 6 (.all (.cons 7 (.all (.cons 8 (.all (.cons 9 .done .nil)) .nil)) .nil)) .nil)) (.cons 6 (.all (.cons 4 (.all (.cons 7 (.all (.cons 8 (.all (.cons 9 .done .nil)) .nil)) .nil)) .nil)) .nil))) (.cons 4 (.all (.cons 3 (.all (.cons 6 (.all (.cons 7 (.all (.cons 8 (.all (.cons 9 .done .nil)) .nil)) .nil)) .nil)) (.cons 6 (.all (.cons 3 (.all (.cons 7 (.all (.cons 8 (.all (.cons 9 .done .nil)) .nil)) .nil)) .nil)) .nil))) (.cons 6 (.all (.cons 3 (.all (.cons 4 (.all (.cons 7 (.all (.cons 8 (.all (.cons 9 .done .nil)) .nil)) .nil)) .nil)) (.cons 4 (.all (.cons 3 (.all (.cons 7 (.all (.cons 8 (.all (.cons 9 .done .nil)) .nil)) .nil)) .nil)) .nil))) .nil)))) (.cons 4 (.all (.cons 2 (.all (.cons 3 (.all (.cons 6 (.all (.cons 7 (.all (.cons 8 (.all (.cons 9 .done .nil)) .nil)) .nil)) .nil)) (.cons 6 (.all (.cons 3 (.all (.cons 7 (.all (.cons 8 (.all (.cons 9 .done .nil)) .nil)) .nil)) .nil)) .nil))) (.cons 6 (.all (.cons 2 (.all (.cons 3 (.all (.cons 7 (.all (.cons 8 (.all (.cons 9 .done .nil)) .nil)) .nil)) .nil)) .nil)) .nil))) (.cons 6 (.all (.cons 2 (.all (.cons 3 (.all (.cons 4 (.all (.cons 7 (.all (.cons 8 (.all (.cons 9 .done .nil)) .nil)) .nil)) .nil)) (.cons 4 (.all (.cons 3 (.all (.cons 7 (.all (.cons 8 (.all (.cons 9 .done .nil)) .nil)) .nil)) .nil)) .nil))) (.cons 4 (.all (.cons 2 (.all (.cons 3 (.all (.cons 7 (.all (.cons 8 (.all (.cons 9 .done .nil)) .nil)) .nil)) .nil)) .nil)) .nil))) .nil)))) (.cons 2 (.all (.cons 0 (.all (.cons 3 (.all (.cons 4 (.all (.cons 6 (.all (.cons 7 (.all (.cons 8 (.all (.cons 9 .done .nil)) .nil)) .nil)) .nil)) (.cons 6 (.all (.cons 4 (.all (.cons 7 (.all (.cons 8 (.all (.cons 9 .done .nil)) .nil)) .nil)) .nil)) .nil))) (.cons 4 (.all (.cons 3 (.all (.cons 6 (.all (.cons 7 (.all (.cons 8 (.all (.cons 9 .done .nil)) .nil)) .nil)) .nil)) (.cons 6 (.all (.cons 3 (.all (.cons 7 (.all (.cons 8 (.all (.cons 9 .done .nil)) .nil)) .nil)) .nil)) .nil))) (.cons 6 (.all (.cons 3 (.all (.cons 4 (.all (.cons 7 (.all (.cons 8 (.all (.cons 9 .done .nil)) .nil)) .nil)) .nil)) (.cons 4 (.all (.cons 3 (.all (.cons 7 (.all (.cons 8 (.all (.cons 9 .done .nil)) .nil)) .nil)) .nil)) .nil))) .nil)))) (.cons 4 (.all (.cons 0 (.all (.cons 3 (.all (.cons 6 (.all (.cons 7 (.all (.cons 8 (.all (.cons 9 .done .nil)) .nil)) .nil)) .nil)) (.cons 6 (.all (.cons 3 (.all (.cons 7 (.all (.cons 8 (.all (.cons 9 .done .nil)) .nil)) .nil)) .nil)) .nil))) (.cons 6 (.all (.cons 0 (.all (.cons 3 (.all (.cons 7 (.all (.cons 8 (.all (.cons 9 .done .nil)) .nil)) .nil)) .nil)) .nil)) .nil))) (.cons 6 (.all (.cons 0 (.all (.cons 3 (.all (.cons 4 (.all (.cons 7 (.all (.cons 8 (.all (.cons 9 .done .nil)) .nil)) .nil)) .nil)) (.cons 4 (.all (.cons 3 (.all (.cons 7 (.all (.cons 8 (.all (.cons 9 .done .nil)) .nil)) .nil)) .nil)) .nil))) (.cons 4 (.all (.cons 0 (.all (.cons 3 (.all (.cons 7 (.all (.cons 8 (.all (.cons 9 .done .nil)) .nil)) .nil)) .nil)) .nil)) .nil))) .nil)))) (.cons 4 (.all (.cons 0 (.all (.cons 2 (.all (.cons 3 (.all (.cons 6 (.all (.cons 7 (.all (.cons 8 (.all (.cons 9 .done .nil)) .nil)) .nil)) .nil)) (.cons 6 (.all (.cons 3 (.all (.cons 7 (.all (.cons 8 (.all (.cons 9 .done .nil)) .nil)) .nil)) .nil)) .nil))) (.cons 6 (.all (.cons 2 (.all (.cons 3 (.all (.cons 7 (.all (.cons 8 (.all (.cons 9 .done .nil)) .nil)) .nil)) .nil)) .nil)) .nil))) (.cons 2 (.all (.cons 0 (.all (.cons 3 (.all (.cons 6 (.all (.cons 7 (.all (.cons 8 (.all (.cons 9 .done .nil)) .nil)) .nil)) .nil)) (.cons 6 (.all (.cons 3 (.all (.cons 7 (.all (.cons 8 (.all (.cons 9 .done .nil)) .nil)) .nil)) .nil)) .nil))) (.cons 6 (.all (.cons 0 (.all (.cons 3 (.all (.cons 7 (.all (.cons 8 (.all (.cons 9 .done .nil)) .nil)) .nil)) .nil)) .nil)) .nil))) (.cons 6 (.all (.cons 0 (.all (.cons 2 (.all (.cons 3 (.all (.cons 7 (.all (.cons 8 (.all (.cons 9 .done .nil)) .nil)) .nil)) .nil)) .nil)) (.cons 2 (.all (.cons 0 (.all (.cons 3 (.all (.cons 7 (.all (.cons 8 (.all (.cons 9 .done .nil)) .nil)) .nil)) .nil)) .nil)) .nil))) .nil)))) (.cons 6 (.all (.cons 0 (.all (.cons 2 (.all (.cons 3 (.all (.cons 4 (.all (.cons 7 (.all (.cons 8 (.all (.cons 9 .done .nil)) .nil)) .nil)) .nil)) (.cons 4 (.all (.cons 3 (.all (.cons 7 (.all (.cons 8 (.all (.cons 9 .done .nil)) .nil)) .nil)) .nil)) .nil))) (.cons 4 (.all (.cons 2 (.all (.cons 3 (.all (.cons 7 (.all (.cons 8 (.all (.cons 9 .done .nil)) .nil)) .nil)) .nil)) .nil)) .nil))) (.cons 2 (.all (.cons 0 (.all (.cons 3 (.all (.cons 4 (.all (.cons 7 (.all (.cons 8 (.all (.cons 9 .done .nil)) .nil)) .nil)) .nil)) (.cons 4 (.all (.cons 3 (.all (.cons 7 (.all (.cons 8 (.all (.cons 9 .done .nil)) .nil)) .nil)) .nil)) .nil))) (.cons 4 (.all (.cons 0 (.all (.cons 3 (.all (.cons 7 (.all (.cons 8 (.all (.cons 9 .done .nil)) .nil)) .nil)) .nil)) .nil)) .nil))) (.cons 4 (.all (.cons 0 (.all (.cons 2 (.all (.cons 3 (.all (.cons 7 (.all (.cons 8 (.all (.cons 9 .done .nil)) .nil)) .nil)) .nil)) .nil)) (.cons 2 (.all (.cons 0 (.all (.cons 3 (.all (.cons 7 (.all (.cons 8 (.all (.cons 9 .done .nil)) .nil)) .nil)) .nil)) .nil)) .nil))) .nil)))) .nil))))))))] f111_at rfl (by kernel_rfl) rfl (by kernel_rfl) rfl (fun i h => by cases h) rfl ?_
  intro hok
  simp only [go_sem, Nat.reduceAdd, Nat.reduceSub, Nat.reduceMul, Nat.reduceEqDiff, Nat.reduceBEq, Nat.reduceBNe, Nat.reduceLT, Nat.reduceLeDiff, Int.reduceNeg, Int.reduceAdd, Int.reduceSub, Int.reduceMul, Int.reduceEq, Int.reduceLT, Int.reduceLE, Int.reduceToNat, reduceIte, reduceCtorEq] at hok
  simp only [Tryz.f111, Func.code, Option.getD_some]
  simp only [go_sem, Nat.reduceAdd, Nat.reduceSub, Nat.reduceMul, Nat.reduceEqDiff, Nat.reduceBEq, Nat.reduceBNe, Nat.reduceLT, Nat.reduceLeDiff, Int.reduceNeg, Int.reduceAdd, Int.reduceSub, Int.reduceMul, Int.reduceEq, Int.reduceLT, Int.reduceLE, Int.reduceToNat, reduceIte, reduceCtorEq]
  simp only [hd.1, hd.2, hok.1.1, hok.2.1, and_self]
theorem ok109 (d : Dev) : VCalls gz 109 [d.enc false] none (fun y _ => y = .lit (.bool d.ok)) := by
  refine VCalls.go (nt := 60) (keep := [0, 1, 2, 3, 4, 5, 20, 23, 32, 37, 59]) (muts := []) (mvs := []) [] f109_at rfl (by kernel_rfl) rfl (by kernel_rfl) rfl (fun i h => by cases h) rfl ?_
  intro hok
  simp only [go_sem, Nat.reduceAdd, Nat.reduceSub, Nat.reduceMul, Nat.reduceEqDiff, Nat.reduceBEq, Nat.reduceBNe, Nat.reduceLT, Nat.reduceLeDiff, Int.reduceNeg, Int.reduceAdd, Int.reduceSub, Int.reduceMul, Int.reduceEq, Int.reduceLT, Int.reduceLE, Int.reduceToNat, reduceIte, reduceCtorEq] at hok
  simp only [Tryz.f109, Func.code, Option.getD_some]
  simp only [go_sem, Nat.reduceAdd, Nat.reduceSub, Nat.reduceMul, Nat.reduceEqDiff, Nat.reduceBEq, Nat.reduceBNe, Nat.reduceLT, Nat.reduceLeDiff, Int.reduceNeg, Int.reduceAdd, Int.reduceSub, Int.reduceMul, Int.reduceEq, Int.reduceLT, Int.reduceLE, Int.reduceToNat, reduceIte, reduceCtorEq]
  intro hl
  first | refine gj_ndec (fun h1 => ?_) (fun h1 => ?_) | refine gj_dec (fun h1 => ?_) (fun h1 => ?_) | refine gj_nbool (fun h1 => ?_) (fun h1 => ?_) | refine gj_bool (fun h1 => ?_) (fun h1 => ?_)
  · simp only [go_sem, Nat.reduceAdd, Nat.reduceSub, Nat.reduceMul, Nat.reduceEqDiff, Nat.reduceBEq, Nat.reduceBNe, Nat.reduceLT, Nat.reduceLeDiff, Int.reduceNeg, Int.reduceAdd, Int.reduceSub, Int.reduceMul, Int.reduceEq, Int.reduceLT, Int.reduceLE, Int.reduceToNat, reduceIte, reduceCtorEq, h1]
    have h2 : ¬ (1 ≤ (d.secs.length : Int) ∧ (d.secs.length : Int) ≤ 16) := by omega
    simp only [Dev.ok, h2, decide_false, Bool.false_and]
  · simp only [go_sem, Nat.reduceAdd, Nat.reduceSub, Nat.reduceMul, Nat.reduceEqDiff, Nat.reduceBEq, Nat.reduceBNe, Nat.reduceLT, Nat.reduceLeDiff, Int.reduceNeg, Int.reduceAdd, Int.reduceSub, Int.reduceMul, Int.reduceEq, Int.reduceLT, Int.reduceLE, Int.reduceToNat, reduceIte, reduceCtorEq, h1]
    first | refine gj_ndec (fun h2 => ?_) (fun h2 => ?_) | refine gj_dec (fun h2 => ?_) (fun h2 => ?_) | refine gj_nbool (fun h2 => ?_) (fun h2 => ?_) | refine gj_bool (fun h2 => ?_) (fun h2 => ?_)
    · simp only [go_sem, Nat.reduceAdd, Nat.reduceSub, Nat.reduceMul, Nat.reduceEqDiff, Nat.reduceBEq, Nat.reduceBNe, Nat.reduceLT, Nat.reduceLeDiff, Int.reduceNeg, Int.reduceAdd, Int.reduceSub, Int.reduceMul, Int.reduceEq, Int.reduceLT, Int.reduceLE, Int.reduceToNat, reduceIte, reduceCtorEq, h2]
      have h3 : ¬ (1 ≤ (d.secs.length : Int) ∧ (d.secs.length : Int) ≤ 16) := by omega
      simp only [Dev.ok, h3, decide_false, Bool.false_and]
    · simp only [go_sem, Nat.reduceAdd, Nat.reduceSub, Nat.reduceMul, Nat.reduceEqDiff, Nat.reduceBEq, Nat.reduceBNe, Nat.reduceLT, Nat.reduceLeDiff, Int.reduceNeg, Int.reduceAdd, Int.reduceSub, Int.reduceMul, Int.reduceEq, Int.reduceLT, Int.reduceLE, Int.reduceToNat, reduceIte, reduceCtorEq, h2]
      intro hl2
      first | refine branch_ndec (fun h3 => ?_) (fun h3 => ?_) | refine branch_dec (fun h3 => ?_) (fun h3 => ?_) | refine branch_nbool (fun h3 => ?_) (fun h3 => ?_) | refine branch_split (fun h3 => ?_) (fun h3 => ?_)
      · simp only [go_sem, Nat.reduceAdd, Nat.reduceSub, Nat.reduceMul, Nat.reduceEqDiff, Nat.reduceBEq, Nat.reduceBNe, Nat.reduceLT, Nat.reduceLeDiff, Int.reduceNeg, Int.reduceAdd, Int.reduceSub, Int.reduceMul, Int.reduceEq, Int.reduceLT, Int.reduceLE, Int.reduceToNat, reduceIte, reduceCtorEq]
        have h4 : ¬ ((d.late.length : Int) ≤ 30) := by omega
        simp only [Dev.ok, h4, decide_false, Bool.and_false, Bool.false_and]
      · simp only [go_sem, Nat.reduceAdd, Nat.reduceSub, Nat.reduceMul, Nat.reduceEqDiff, Nat.reduceBEq, Nat.reduceBNe, Nat.reduceLT, Nat.reduceLeDiff, Int.reduceNeg, Int.reduceAdd, Int.reduceSub, Int.reduceMul, Int.reduceEq, Int.reduceLT, Int.reduceLE, Int.reduceToNat, reduceIte, reduceCtorEq]
        refine vm_loopK (α := Nat) (fun i => [(1, .ptr true (d.enc false)), (3, .lit (.int .i64 d.secs.length)), (4, .lit (.int .i64 i))]) (fun i => i ≤ d.secs.length ∧ ∀ s ∈ d.secs.take i, decide (400 < (s.size : Int)) = false) (fun i => d.secs.length - i) 0 ?_ ⟨by omega, by simp⟩ (by kernel_rfl) (fun _ => rfl) ?_
        · simp only [go_sem, Nat.reduceAdd, Nat.reduceSub, Nat.reduceMul, Nat.reduceEqDiff, Nat.reduceBEq, Nat.reduceBNe, Nat.reduceLT, Nat.reduceLeDiff, Int.reduceNeg, Int.reduceAdd, Int.reduceSub, Int.reduceMul, Int.reduceEq, Int.reduceLT, Int.reduceLE, Int.reduceToNat, reduceIte, reduceCtorEq]
          trivial
        · intro i hi _
          simp only [go_sem, Nat.reduceAdd, Nat.reduceSub, Nat.reduceMul, Nat.reduceEqDiff, Nat.reduceBEq, Nat.reduceBNe, Nat.reduceLT, Nat.reduceLeDiff, Int.reduceNeg, Int.reduceAdd, Int.reduceSub, Int.reduceMul, Int.reduceEq, Int.reduceLT, Int.reduceLE, Int.reduceToNat, reduceIte, reduceCtorEq]
          first | refine branch_ndec (fun h => ?_) (fun h => ?_) | refine branch_dec (fun h => ?_) (fun h => ?_) | refine branch_nbool (fun h => ?_) (fun h => ?_) | refine branch_split (fun h => ?_) (fun h => ?_)
          · have hlt : i < d.secs.length := by omega
            simp only [go_sem, Nat.reduceAdd, Nat.reduceSub, Nat.reduceMul, Nat.reduceEqDiff, Nat.reduceBEq, Nat.reduceBNe, Nat.reduceLT, Nat.reduceLeDiff, Int.reduceNeg, Int.reduceAdd, Int.reduceSub, Int.reduceMul, Int.reduceEq, Int.reduceLT, Int.reduceLE, Int.reduceToNat, reduceIte, reduceCtorEq]
            refine ⟨by omega, by omega, hlt, ?_⟩
            intro _
            first | refine branch_ndec (fun h4 => ?_) (fun h4 => ?_) | refine branch_dec (fun h4 => ?_) (fun h4 => ?_) | refine branch_nbool (fun h4 => ?_) (fun h4 => ?_) | refine branch_split (fun h4 => ?_) (fun h4 => ?_)
            · simp only [go_sem, Nat.reduceAdd, Nat.reduceSub, Nat.reduceMul, Nat.reduceEqDiff, Nat.reduceBEq, Nat.reduceBNe, Nat.reduceLT, Nat.reduceLeDiff, Int.reduceNeg, Int.reduceAdd, Int.reduceSub, Int.reduceMul, Int.reduceEq, Int.reduceLT, Int.reduceLE, Int.reduceToNat, reduceIte, reduceCtorEq]
              have h5 : (d.secs.any fun s => decide (400 < (s.size : Int))) = true := List.any_eq_true.2 ⟨_, getD_mem hlt, decide_eq_true h4⟩
              simp only [Dev.ok, h5, Bool.not_true, Bool.and_false, Bool.false_and]
            · try simp only [go_sem, Nat.reduceAdd, Nat.reduceSub, Nat.reduceMul, Nat.reduceEqDiff, Nat.reduceBEq, Nat.reduceBNe, Nat.reduceLT, Nat.reduceLeDiff, Int.reduceNeg, Int.reduceAdd, Int.reduceSub, Int.reduceMul, Int.reduceEq, Int.reduceLT, Int.reduceLE, Int.reduceToNat, reduceIte, reduceCtorEq]
              simp (disch := omega) only [wrap64, wrapU64, wrapU32, wrapU8]
              refine again_intro (i + 1) ⟨by omega, ?_⟩ (by omega) ?_
              · intro x hx
                rw [take_succ_getD hlt, List.mem_append] at hx
                rcases hx with hx | hx
                · exact hi.2 x hx
                · simp only [List.mem_singleton] at hx
                  rw [hx]
                  exact decide_eq_false h4
              · simp only [go_sem, Nat.reduceAdd, Nat.reduceSub, Nat.reduceMul, Nat.reduceEqDiff, Nat.reduceBEq, Nat.reduceBNe, Nat.reduceLT, Nat.reduceLeDiff, Int.reduceNeg, Int.reduceAdd, Int.reduceSub, Int.reduceMul, Int.reduceEq, Int.reduceLT, Int.reduceLE, Int.reduceToNat, reduceIte, reduceCtorEq]
                omega
          · have hie : i = d.secs.length := by omega
            have hsec : (d.secs.any fun s => decide (400 < (s.size : Int))) = false := by
              have := hi.2
              rw [hie, List.take_length] at this
              exact List.any_eq_false.2 fun x hx => by rw [this x hx]; simp
            simp only [go_sem, Nat.reduceAdd, Nat.reduceSub, Nat.reduceMul, Nat.reduceEqDiff, Nat.reduceBEq, Nat.reduceBNe, Nat.reduceLT, Nat.reduceLeDiff, Int.reduceNeg, Int.reduceAdd, Int.reduceSub, Int.reduceMul, Int.reduceEq, Int.reduceLT, Int.reduceLE, Int.reduceToNat, reduceIte, reduceCtorEq]
            refine vm_loopK (α := Nat) (fun i => [(1, .ptr true (d.enc false)), (3, .lit (.int .i64 d.secs.length)), (5, .lit (.int .i64 i))]) (fun i => i ≤ d.late.length ∧ ∀ p ∈ d.late.take i, d.fits p.place p.text = true) (fun i => d.late.length - i) 0 ?_ ⟨by omega, by simp⟩ (by kernel_rfl) (fun _ => rfl) ?_
            · simp only [go_sem, Nat.reduceAdd, Nat.reduceSub, Nat.reduceMul, Nat.reduceEqDiff, Nat.reduceBEq, Nat.reduceBNe, Nat.reduceLT, Nat.reduceLeDiff, Int.reduceNeg, Int.reduceAdd, Int.reduceSub, Int.reduceMul, Int.reduceEq, Int.reduceLT, Int.reduceLE, Int.reduceToNat, reduceIte, reduceCtorEq]
              trivial
            · intro j hj _
              simp only [go_sem, Nat.reduceAdd, Nat.reduceSub, Nat.reduceMul, Nat.reduceEqDiff, Nat.reduceBEq, Nat.reduceBNe, Nat.reduceLT, Nat.reduceLeDiff, Int.reduceNeg, Int.reduceAdd, Int.reduceSub, Int.reduceMul, Int.reduceEq, Int.reduceLT, Int.reduceLE, Int.reduceToNat, reduceIte, reduceCtorEq]
              intro _
              first | refine branch_ndec (fun h7 => ?_) (fun h7 => ?_) | refine branch_dec (fun h7 => ?_) (fun h7 => ?_) | refine branch_nbool (fun h7 => ?_) (fun h7 => ?_) | refine branch_split (fun h7 => ?_) (fun h7 => ?_)
              · have hlt : j < d.late.length := by omega
                try simp only [go_sem, Nat.reduceAdd, Nat.reduceSub, Nat.reduceMul, Nat.reduceEqDiff, Nat.reduceBEq, Nat.reduceBNe, Nat.reduceLT, Nat.reduceLeDiff, Int.reduceNeg, Int.reduceAdd, Int.reduceSub, Int.reduceMul, Int.reduceEq, Int.reduceLT, Int.reduceLE, Int.reduceToNat, reduceIte, reduceCtorEq]
                simp (disch := omega) only [wrap64, wrapU64, wrapU32, wrapU8]
                refine ⟨by omega, by omega, hlt, ?_⟩
                refine call_lend ?_
                simp only [go_sem, Nat.reduceAdd, Nat.reduceSub, Nat.reduceMul, Nat.reduceEqDiff, Nat.reduceBEq, Nat.reduceBNe, Nat.reduceLT, Nat.reduceLeDiff, Int.reduceNeg, Int.reduceAdd, Int.reduceSub, Int.reduceMul, Int.reduceEq, Int.reduceLT, Int.reduceLE, Int.reduceToNat, reduceIte, reduceCtorEq]
                refine callN.eq (ok76 _ _ _) (by simp only [go_sem, Nat.reduceAdd, Nat.reduceSub, Nat.reduceMul, Nat.reduceEqDiff, Nat.reduceBEq, Nat.reduceBNe, Nat.reduceLT, Nat.reduceLeDiff, Int.reduceNeg, Int.reduceAdd, Int.reduceSub, Int.reduceMul, Int.reduceEq, Int.reduceLT, Int.reduceLE, Int.reduceToNat, reduceIte, reduceCtorEq]) ?_
                simp only [go_sem, Nat.reduceAdd, Nat.reduceSub, Nat.reduceMul, Nat.reduceEqDiff, Nat.reduceBEq, Nat.reduceBNe, Nat.reduceLT, Nat.reduceLeDiff, Int.reduceNeg, Int.reduceAdd, Int.reduceSub, Int.reduceMul, Int.reduceEq, Int.reduceLT, Int.reduceLE, Int.reduceToNat, reduceIte, reduceCtorEq]
                first | refine gj_ndec (fun h8 => ?_) (fun h8 => ?_) | refine gj_dec (fun h8 => ?_) (fun h8 => ?_) | refine gj_nbool (fun h8 => ?_) (fun h8 => ?_) | refine gj_bool (fun h8 => ?_) (fun h8 => ?_)
                · simp only [go_sem, Nat.reduceAdd, Nat.reduceSub, Nat.reduceMul, Nat.reduceEqDiff, Nat.reduceBEq, Nat.reduceBNe, Nat.reduceLT, Nat.reduceLeDiff, Int.reduceNeg, Int.reduceAdd, Int.reduceSub, Int.reduceMul, Int.reduceEq, Int.reduceLT, Int.reduceLE, Int.reduceToNat, reduceIte, reduceCtorEq, h8]
                  refine ⟨by omega, by omega, hlt, ?_⟩
                  intro _
                  first | refine branch_ndec (fun h9 => ?_) (fun h9 => ?_) | refine branch_dec (fun h9 => ?_) (fun h9 => ?_) | refine branch_nbool (fun h9 => ?_) (fun h9 => ?_) | refine branch_split (fun h9 => ?_) (fun h9 => ?_)
                  · simp only [go_sem, Nat.reduceAdd, Nat.reduceSub, Nat.reduceMul, Nat.reduceEqDiff, Nat.reduceBEq, Nat.reduceBNe, Nat.reduceLT, Nat.reduceLeDiff, Int.reduceNeg, Int.reduceAdd, Int.reduceSub, Int.reduceMul, Int.reduceEq, Int.reduceLT, Int.reduceLE, Int.reduceToNat, reduceIte, reduceCtorEq]
                    have h5 : (d.late.any fun p => !d.fits p.place p.text) = true := List.any_eq_true.2 ⟨_, getD_mem hlt, by
                      have : ¬ ((d.late.getD j default).text.size : Int) ≤ 400 := by omega
                      simp only [Dev.fits, this, decide_false, Bool.and_false, Bool.not_false]⟩
                    simp only [Dev.ok, h5, Bool.not_true, Bool.and_false]
                  · try simp only [go_sem, Nat.reduceAdd, Nat.reduceSub, Nat.reduceMul, Nat.reduceEqDiff, Nat.reduceBEq, Nat.reduceBNe, Nat.reduceLT, Nat.reduceLeDiff, Int.reduceNeg, Int.reduceAdd, Int.reduceSub, Int.reduceMul, Int.reduceEq, Int.reduceLT, Int.reduceLE, Int.reduceToNat, reduceIte, reduceCtorEq]
                    simp (disch := omega) only [wrap64, wrapU64, wrapU32, wrapU8]
                    refine again_intro (j + 1) ⟨by omega, ?_⟩ (by omega) ?_
                    · intro x hx
                      rw [take_succ_getD hlt, List.mem_append] at hx
                      rcases hx with hx | hx
                      · exact hj.2 x hx
                      · simp only [List.mem_singleton] at hx
                        rw [hx]
                        have : ((d.late.getD j default).text.size : Int) ≤ 400 := by omega
                        simp only [Dev.fits, this, h8, and_self, decide_true, Bool.and_self]
                    · simp only [go_sem, Nat.reduceAdd, Nat.reduceSub, Nat.reduceMul, Nat.reduceEqDiff, Nat.reduceBEq, Nat.reduceBNe, Nat.reduceLT, Nat.reduceLeDiff, Int.reduceNeg, Int.reduceAdd, Int.reduceSub, Int.reduceMul, Int.reduceEq, Int.reduceLT, Int.reduceLE, Int.reduceToNat, reduceIte, reduceCtorEq]
                      omega
                · simp only [go_sem, Nat.reduceAdd, Nat.reduceSub, Nat.reduceMul, Nat.reduceEqDiff, Nat.reduceBEq, Nat.reduceBNe, Nat.reduceLT, Nat.reduceLeDiff, Int.reduceNeg, Int.reduceAdd, Int.reduceSub, Int.reduceMul, Int.reduceEq, Int.reduceLT, Int.reduceLE, Int.reduceToNat, reduceIte, reduceCtorEq, h8]
                  have h5 : (d.late.any fun p => !d.fits p.place p.text) = true := List.any_eq_true.2 ⟨_, getD_mem hlt, by
                    simp only [Dev.fits, h8, decide_false, Bool.false_and, Bool.not_false]⟩
                  simp only [Dev.ok, h5, Bool.not_true, Bool.and_false]
              · have hje : j = d.late.length := by omega
                simp only [go_sem, Nat.reduceAdd, Nat.reduceSub, Nat.reduceMul, Nat.reduceEqDiff, Nat.reduceBEq, Nat.reduceBNe, Nat.reduceLT, Nat.reduceLeDiff, Int.reduceNeg, Int.reduceAdd, Int.reduceSub, Int.reduceMul, Int.reduceEq, Int.reduceLT, Int.reduceLE, Int.reduceToNat, reduceIte, reduceCtorEq]
                have h5 : (d.late.any fun p => !d.fits p.place p.text) = false := by
                  have := hj.2
                  rw [hje, List.take_length] at this
                  exact List.any_eq_false.2 fun x hx => by rw [this x hx]; simp
                have h6 : 1 ≤ (d.secs.length : Int) ∧ (d.secs.length : Int) ≤ 16 := by omega
                have h10 : ((d.late.length : Int) ≤ 30) := by omega
                simp only [Dev.ok, h5, hsec, h6, h10, and_self, decide_true, Bool.not_false, Bool.and_self]
theorem ok206 (d : Dev) (hd : d.small) (a : Int) (t : ByteArray) : VCalls gz 206 [d.enc false, .lit (.int .i64 a), .lit (.string t)] none (fun y _ => y = .tup [(d.lay a t).1.enc true, .lit (.bool (d.lay a t).2)]) := by
  refine VCalls.go (nt := 43) (keep := [0, 1, 2, 3, 6, 7, 8, 11, 32]) (muts := []) (mvs := [5,7]) [] f206_at rfl (by kernel_rfl) rfl (by kernel_rfl) rfl (fun i h => by cases h) rfl ?_
  intro hok
  simp only [go_sem, Nat.reduceAdd, Nat.reduceSub, Nat.reduceMul, Nat.reduceEqDiff, Nat.reduceBEq, Nat.reduceBNe, Nat.reduceLT, Nat.reduceLeDiff, Int.reduceNeg, Int.reduceAdd, Int.reduceSub, Int.reduceMul, Int.reduceEq, Int.reduceLT, Int.reduceLE, Int.reduceToNat, reduceIte, reduceCtorEq] at hok
  simp only [Tryz.f206, Func.code, Option.getD_some]
  simp only [go_sem, Nat.reduceAdd, Nat.reduceSub, Nat.reduceMul, Nat.reduceEqDiff, Nat.reduceBEq, Nat.reduceBNe, Nat.reduceLT, Nat.reduceLeDiff, Int.reduceNeg, Int.reduceAdd, Int.reduceSub, Int.reduceMul, Int.reduceEq, Int.reduceLT, Int.reduceLE, Int.reduceToNat, reduceIte, reduceCtorEq]
  refine call_lend ?_
  simp only [go_sem, Nat.reduceAdd, Nat.reduceSub, Nat.reduceMul, Nat.reduceEqDiff, Nat.reduceBEq, Nat.reduceBNe, Nat.reduceLT, Nat.reduceLeDiff, Int.reduceNeg, Int.reduceAdd, Int.reduceSub, Int.reduceMul, Int.reduceEq, Int.reduceLT, Int.reduceLE, Int.reduceToNat, reduceIte, reduceCtorEq]
  refine callN.eq (ok109 d) (by simp only [go_sem, Nat.reduceAdd, Nat.reduceSub, Nat.reduceMul, Nat.reduceEqDiff, Nat.reduceBEq, Nat.reduceBNe, Nat.reduceLT, Nat.reduceLeDiff, Int.reduceNeg, Int.reduceAdd, Int.reduceSub, Int.reduceMul, Int.reduceEq, Int.reduceLT, Int.reduceLE, Int.reduceToNat, reduceIte, reduceCtorEq]) ?_
  simp only [go_sem, Nat.reduceAdd, Nat.reduceSub, Nat.reduceMul, Nat.reduceEqDiff, Nat.reduceBEq, Nat.reduceBNe, Nat.reduceLT, Nat.reduceLeDiff, Int.reduceNeg, Int.reduceAdd, Int.reduceSub, Int.reduceMul, Int.reduceEq, Int.reduceLT, Int.reduceLE, Int.reduceToNat, reduceIte, reduceCtorEq]
  first | refine branch_ndec (fun h1 => ?_) (fun h1 => ?_) | refine branch_dec (fun h1 => ?_) (fun h1 => ?_) | refine branch_nbool (fun h1 => ?_) (fun h1 => ?_) | refine branch_split (fun h1 => ?_) (fun h1 => ?_)
  · simp only [go_sem, Nat.reduceAdd, Nat.reduceSub, Nat.reduceMul, Nat.reduceEqDiff, Nat.reduceBEq, Nat.reduceBNe, Nat.reduceLT, Nat.reduceLeDiff, Int.reduceNeg, Int.reduceAdd, Int.reduceSub, Int.reduceMul, Int.reduceEq, Int.reduceLT, Int.reduceLE, Int.reduceToNat, reduceIte, reduceCtorEq]
    refine call_lend ?_
    simp only [go_sem, Nat.reduceAdd, Nat.reduceSub, Nat.reduceMul, Nat.reduceEqDiff, Nat.reduceBEq, Nat.reduceBNe, Nat.reduceLT, Nat.reduceLeDiff, Int.reduceNeg, Int.reduceAdd, Int.reduceSub, Int.reduceMul, Int.reduceEq, Int.reduceLT, Int.reduceLE, Int.reduceToNat, reduceIte, reduceCtorEq]
    refine callN.eq (ok111 d hd) (by simp only [go_sem, Nat.reduceAdd, Nat.reduceSub, Nat.reduceMul, Nat.reduceEqDiff, Nat.reduceBEq, Nat.reduceBNe, Nat.reduceLT, Nat.reduceLeDiff, Int.reduceNeg, Int.reduceAdd, Int.reduceSub, Int.reduceMul, Int.reduceEq, Int.reduceLT, Int.reduceLE, Int.reduceToNat, reduceIte, reduceCtorEq]) ?_
    simp only [go_sem, Nat.reduceAdd, Nat.reduceSub, Nat.reduceMul, Nat.reduceEqDiff, Nat.reduceBEq, Nat.reduceBNe, Nat.reduceLT, Nat.reduceLeDiff, Int.reduceNeg, Int.reduceAdd, Int.reduceSub, Int.reduceMul, Int.reduceEq, Int.reduceLT, Int.reduceLE, Int.reduceToNat, reduceIte, reduceCtorEq]
    intro hl
    try simp only [go_sem, Nat.reduceAdd, Nat.reduceSub, Nat.reduceMul, Nat.reduceEqDiff, Nat.reduceBEq, Nat.reduceBNe, Nat.reduceLT, Nat.reduceLeDiff, Int.reduceNeg, Int.reduceAdd, Int.reduceSub, Int.reduceMul, Int.reduceEq, Int.reduceLT, Int.reduceLE, Int.reduceToNat, reduceIte, reduceCtorEq]
    simp (disch := omega) only [wrap64, wrapU64, wrapU32, wrapU8]
    refine call_lend ?_
    simp only [go_sem, Nat.reduceAdd, Nat.reduceSub, Nat.reduceMul, Nat.reduceEqDiff, Nat.reduceBEq, Nat.reduceBNe, Nat.reduceLT, Nat.reduceLeDiff, Int.reduceNeg, Int.reduceAdd, Int.reduceSub, Int.reduceMul, Int.reduceEq, Int.reduceLT, Int.reduceLE, Int.reduceToNat, reduceIte, reduceCtorEq]
    refine callN.eq (ok76 _ _ _) (by simp only [go_sem, Nat.reduceAdd, Nat.reduceSub, Nat.reduceMul, Nat.reduceEqDiff, Nat.reduceBEq, Nat.reduceBNe, Nat.reduceLT, Nat.reduceLeDiff, Int.reduceNeg, Int.reduceAdd, Int.reduceSub, Int.reduceMul, Int.reduceEq, Int.reduceLT, Int.reduceLE, Int.reduceToNat, reduceIte, reduceCtorEq]) ?_
    simp only [go_sem, Nat.reduceAdd, Nat.reduceSub, Nat.reduceMul, Nat.reduceEqDiff, Nat.reduceBEq, Nat.reduceBNe, Nat.reduceLT, Nat.reduceLeDiff, Int.reduceNeg, Int.reduceAdd, Int.reduceSub, Int.reduceMul, Int.reduceEq, Int.reduceLT, Int.reduceLE, Int.reduceToNat, reduceIte, reduceCtorEq]
    first | refine gj_ndec (fun h2 => ?_) (fun h2 => ?_) | refine gj_dec (fun h2 => ?_) (fun h2 => ?_) | refine gj_nbool (fun h2 => ?_) (fun h2 => ?_) | refine gj_bool (fun h2 => ?_) (fun h2 => ?_)
    · simp only [go_sem, Nat.reduceAdd, Nat.reduceSub, Nat.reduceMul, Nat.reduceEqDiff, Nat.reduceBEq, Nat.reduceBNe, Nat.reduceLT, Nat.reduceLeDiff, Int.reduceNeg, Int.reduceAdd, Int.reduceSub, Int.reduceMul, Int.reduceEq, Int.reduceLT, Int.reduceLE, Int.reduceToNat, reduceIte, reduceCtorEq, h2]
      intro h3
      first | refine gj_ndec (fun h4 => ?_) (fun h4 => ?_) | refine gj_dec (fun h4 => ?_) (fun h4 => ?_) | refine gj_nbool (fun h4 => ?_) (fun h4 => ?_) | refine gj_bool (fun h4 => ?_) (fun h4 => ?_)
      · simp only [go_sem, Nat.reduceAdd, Nat.reduceSub, Nat.reduceMul, Nat.reduceEqDiff, Nat.reduceBEq, Nat.reduceBNe, Nat.reduceLT, Nat.reduceLeDiff, Int.reduceNeg, Int.reduceAdd, Int.reduceSub, Int.reduceMul, Int.reduceEq, Int.reduceLT, Int.reduceLE, Int.reduceToNat, reduceIte, reduceCtorEq, h4]
        have h5 : d.fits a t = false := by
          have : ¬ ((t.size : Int) ≤ 400) := by omega
          simp only [Dev.fits, this, decide_false, Bool.and_false]
        simp only [Dev.lay, h1, h5, if_true, Bool.false_eq_true, false_and, if_false, and_self]
      · simp only [go_sem, Nat.reduceAdd, Nat.reduceSub, Nat.reduceMul, Nat.reduceEqDiff, Nat.reduceBEq, Nat.reduceBNe, Nat.reduceLT, Nat.reduceLeDiff, Int.reduceNeg, Int.reduceAdd, Int.reduceSub, Int.reduceMul, Int.reduceEq, Int.reduceLT, Int.reduceLE, Int.reduceToNat, reduceIte, reduceCtorEq, h4]
        intro h6
        have h5 : d.fits a t = true := by
          have : ((t.size : Int) ≤ 400) := by omega
          simp only [Dev.fits, this, h2, and_self, decide_true, Bool.and_true]
        first | refine branch_ndec (fun h7 => ?_) (fun h7 => ?_) | refine branch_dec (fun h7 => ?_) (fun h7 => ?_) | refine branch_nbool (fun h7 => ?_) (fun h7 => ?_) | refine branch_split (fun h7 => ?_) (fun h7 => ?_)
        · simp only [go_sem, Nat.reduceAdd, Nat.reduceSub, Nat.reduceMul, Nat.reduceEqDiff, Nat.reduceBEq, Nat.reduceBNe, Nat.reduceLT, Nat.reduceLeDiff, Int.reduceNeg, Int.reduceAdd, Int.reduceSub, Int.reduceMul, Int.reduceEq, Int.reduceLT, Int.reduceLE, Int.reduceToNat, reduceIte, reduceCtorEq]
          have h8 : d.late.length = 30 := by omega
          simp only [Dev.lay, h1, h5, h8, if_true, not_true_eq_false, and_false, if_false, and_self]
        · simp only [go_sem, Nat.reduceAdd, Nat.reduceSub, Nat.reduceMul, Nat.reduceEqDiff, Nat.reduceBEq, Nat.reduceBNe, Nat.reduceLT, Nat.reduceLeDiff, Int.reduceNeg, Int.reduceAdd, Int.reduceSub, Int.reduceMul, Int.reduceEq, Int.reduceLT, Int.reduceLE, Int.reduceToNat, reduceIte, reduceCtorEq]
          have h8 : ¬ d.late.length = 30 := by omega
          have h9 := hd.2
          have h10 : d.late.length ≤ 30 := by
            have := h1
            simp only [Dev.ok, Bool.and_eq_true, decide_eq_true_eq] at this
            omega
          simp only [Dev.lay, h1, h5, h8, if_true, not_false_eq_true, and_self, and_true]
          simp only [go_sem, Nat.reduceAdd, Nat.reduceSub, Nat.reduceMul, Nat.reduceEqDiff, Nat.reduceBEq, Nat.reduceBNe, Nat.reduceLT, Nat.reduceLeDiff, Int.reduceNeg, Int.reduceAdd, Int.reduceSub, Int.reduceMul, Int.reduceEq, Int.reduceLT, Int.reduceLE, Int.reduceToNat, reduceIte, reduceCtorEq]
          omega
    · simp only [go_sem, Nat.reduceAdd, Nat.reduceSub, Nat.reduceMul, Nat.reduceEqDiff, Nat.reduceBEq, Nat.reduceBNe, Nat.reduceLT, Nat.reduceLeDiff, Int.reduceNeg, Int.reduceAdd, Int.reduceSub, Int.reduceMul, Int.reduceEq, Int.reduceLT, Int.reduceLE, Int.reduceToNat, reduceIte, reduceCtorEq, h2]
      have h5 : d.fits a t = false := by simp only [Dev.fits, h2, decide_false, Bool.false_and]
      simp only [Dev.lay, h1, h5, if_true, Bool.false_eq_true, false_and, if_false, and_self]
  · simp only [go_sem, Nat.reduceAdd, Nat.reduceSub, Nat.reduceMul, Nat.reduceEqDiff, Nat.reduceBEq, Nat.reduceBNe, Nat.reduceLT, Nat.reduceLeDiff, Int.reduceNeg, Int.reduceAdd, Int.reduceSub, Int.reduceMul, Int.reduceEq, Int.reduceLT, Int.reduceLE, Int.reduceToNat, reduceIte, reduceCtorEq]
    simp only [Dev.lay, h1, Bool.false_eq_true, if_false, Dev.none, List.map_nil, and_self]
end Go.VS

set_option linter.unusedSimpArgs false
set_option linter.unusedVariables false
open Go.Proofs
set_option maxRecDepth 20000
namespace Go.VS
theorem f138_at : gz.P.funcs[138]? = some Tryz.f138 := by
  have h : Tryz.prog.funcs[138]? = some Tryz.f138 := by kernel_rfl
  exact h
theorem f112_at : gz.P.funcs[112]? = some Tryz.f112 := by
  have h : Tryz.prog.funcs[112]? = some Tryz.f112 := by kernel_rfl
  exact h
theorem f221_at : gz.P.funcs[221]? = some Tryz.f221 := by
  have h : Tryz.prog.funcs[221]? = some Tryz.f221 := by kernel_rfl
  exact h
theorem settleN_stop (k : Nat → Bool) (late : List Patch) (ss : List ByteArray) (i : Nat) : ∀ n, (∀ j, i ≤ j → j < i + n → k j = false) → settleN k late ss (i + n) = settleN k late ss i
  | 0, _ => rfl
  | n + 1, h => by
    show settleN k late ss (i + n + 1) = _
    simp only [settleN, h (i + n) (by omega) (by omega), Bool.false_eq_true, if_false]
    exact settleN_stop k late ss i n fun j h1 h2 => h j h1 (by omega)
theorem ok138 (d : Dev) (hd : d.small) (l : List Bool) : VCalls gz 138 [d.enc false, .lst false 1 (l.map boolA)] none (fun y _ => y = (d.cut l).enc true) := by
  refine VCalls.go (nt := 49) (keep := [0, 1, 2, 4, 5, 6, 9, 26, 32]) (muts := []) (mvs := [9]) [(8, .tree false (.take 0 (.take 2 (.take 4 (.take 8 (.take 10 (.all (.cons 1 (.all (.cons 3 (.take 5 (.take 6 (.all (.cons 7 (.all (.cons 9 (.take 11 (.take 12 (.all (.cons 13 (.take 14 (.all (.cons 15 .done .nil))) .nil)))) .nil)) (.cons 9 (.take 11 (.take 12 (.all (.cons 7 (.all (.cons 13 (.take 14 (.all (.cons 15 .done .nil))) .nil)) (.cons 13 (.all (.cons 7 (.take 14 (.all (.cons 15 .done .nil))) .nil)) .nil))))) .nil))))) (.cons 9 (.take 11 (.take 12 (.all (.cons 3 (.take 5 (.take 6 (.all (.cons 7 (.all (.cons 13 (.take 14 (.all (.cons 15 .done .nil))) .nil)) (.cons 13 (.all (.cons 7 (.take 14 (.all (.cons 15 .done .nil))) .nil)) .nil))))) (.cons 13 (.all (.cons 3 (.take 5 (.take 6 (.all (.cons 7 (.take 14 (.all (.cons 15 .done .nil))) .nil)))) .nil)) .nil))))) .nil))) (.cons 3 (.take 5 (.take 6 (.all (.cons 1 (.all (.cons 7 (.all (.cons 9 (.take 11 (.take 12 (.all (.cons 13 (.take 14 (.all (.cons 15 .done .nil))) .nil)))) .nil)) (.cons 9 (.take 11 (.take 12 (.all (.cons 7 (.all (.cons 13 (.take 14 (.all (.cons 15 .done .nil))) .nil)) (.cons 13 (.all (.cons 7 (.take 14 (.all (.cons 15 .done .nil))) .nil)) .nil))))) .nil))) (.cons 7 (.all (.cons 1 (.all (.cons 9 (.take 11 (.take 12 (.all (.cons 13 (.take 14 (.all (.cons 15 .done .nil))) .nil)))) .nil)) (.cons 9 (.take 11 (.take 12 (.all (.cons 1 (.all (.cons 13 (.take 14 (.all (.cons 15 .done .nil))) .nil)) (.cons 13 (.all (.cons 1 (.take 14 (.all (.cons 15 .done .nil))) .nil)) .nil))))) .nil))) (.cons 9 (.take 11 (.take 12 (.all (.cons 1 (.all (.cons 7 (.all (.cons 13 (.take 14 (.all (.cons 15 .done .nil))) .nil)) (.cons 13 (.all (.cons 7 (.take 14 (.all (.cons 15 .done .nil))) .nil)) .nil))) (.cons 7 (.all (.cons 1 (.all (.cons 13 (.take 14 (.all (.cons 15 .done .nil))) .nil)) (.cons 13 (.all (.cons 1 (.take 14 (.all (.cons 15 .done .nil))) .nil)) .nil))) (.cons 13 (.all (.cons 1 (.all (.cons 7 (.take 14 (.all (.cons 15 .done .nil))) .nil)) (.cons 7 (.all (.cons 1 (.take 14 (.all (.cons 15 .done .nil))) .nil)) .nil))) .nil)))))) .nil)))))) (.cons 9 (.take 11 (.take 12 (.all (.cons 1 (.all (.cons 3 (.take 5 (.take 6 (.all (.cons 7 (.all (.cons 13 (.take 14 (.all (.cons 15 .done .nil))) .nil)) (.cons 13 (.all (.cons 7 (.take 14 (.all (.cons 15 .done .nil))) .nil)) .nil))))) (.cons 13 (.all (.cons 3 (.take 5 (.take 6 (.all (.cons 7 (.take 14 (.all (.cons 15 .done .nil))) .nil)))) .nil)) .nil))) (.cons 3 (.take 5 (.take 6 (.all (.cons 1 (.all (.cons 7 (.all (.cons 13 (.take 14 (.all (.cons 15 .done .nil))) .nil)) (.cons 13 (.all (.cons 7 (.take 14 (.all (.cons 15 .done .nil))) .nil)) .nil))) (.cons 7 (.all (.cons 1 (.all (.cons 13 (.take 14 (.all (.cons 15 .done .nil))) .nil)) (.cons 13 (.all (.cons 1 (.take 14 (.all (.cons 15 .done .nil))) .nil)) .nil))) (.cons 13 (.all (.cons 1 (.all (.cons 7 (.take 14 (.all (.cons 15 .done .nil))) .nil)) (.cons 7 (.all (.cons 1 (.take 14 (.all (.cons 15 .done .nil))) .nil)) .nil))) .nil)))))) (.cons 13 (.all (.cons 1 (.all (.cons 3 (.take 5 (.take 6 (.all (.cons 7 (.take 14 (.all (.cons 15 .done .nil))) .nil)))) .nil)) (.cons 3 (.take 5 (.take 6 (.all (.cons 1 (.all (.cons 7 (.take 14 (.all (.cons 15 .done .nil))) .nil)) (.cons 7 (.all (.cons 1 (.take 14 (.all (.cons 15 .done .nil))) .nil)) .nil))))) .nil))) .nil)))))) .nil))))))))))] f138_at rfl (by kernel_rfl) rfl (by kernel_rfl) rfl (fun i h => by cases h) rfl ?_
  intro hok
  simp only [go_sem, Nat.reduceAdd, Nat.reduceSub, Nat.reduceMul, Nat.reduceEqDiff, Nat.reduceBEq, Nat.reduceBNe, Nat.reduceLT, Nat.reduceLeDiff, Int.reduceNeg, Int.reduceAdd, Int.reduceSub, Int.reduceMul, Int.reduceEq, Int.reduceLT, Int.reduceLE, Int.reduceToNat, reduceIte, reduceCtorEq] at hok
  simp only [Tryz.f138, Func.code, Option.getD_some]
  simp only [go_sem, Nat.reduceAdd, Nat.reduceSub, Nat.reduceMul, Nat.reduceEqDiff, Nat.reduceBEq, Nat.reduceBNe, Nat.reduceLT, Nat.reduceLeDiff, Int.reduceNeg, Int.reduceAdd, Int.reduceSub, Int.reduceMul, Int.reduceEq, Int.reduceLT, Int.reduceLE, Int.reduceToNat, reduceIte, reduceCtorEq]
  refine call_lend ?_
  simp only [go_sem, Nat.reduceAdd, Nat.reduceSub, Nat.reduceMul, Nat.reduceEqDiff, Nat.reduceBEq, Nat.reduceBNe, Nat.reduceLT, Nat.reduceLeDiff, Int.reduceNeg, Int.reduceAdd, Int.reduceSub, Int.reduceMul, Int.reduceEq, Int.reduceLT, Int.reduceLE, Int.reduceToNat, reduceIte, reduceCtorEq]
  refine callN.eq (ok109 d) (by simp only [go_sem, Nat.reduceAdd, Nat.reduceSub, Nat.reduceMul, Nat.reduceEqDiff, Nat.reduceBEq, Nat.reduceBNe, Nat.reduceLT, Nat.reduceLeDiff, Int.reduceNeg, Int.reduceAdd, Int.reduceSub, Int.reduceMul, Int.reduceEq, Int.reduceLT, Int.reduceLE, Int.reduceToNat, reduceIte, reduceCtorEq]) ?_
  simp only [go_sem, Nat.reduceAdd, Nat.reduceSub, Nat.reduceMul, Nat.reduceEqDiff, Nat.reduceBEq, Nat.reduceBNe, Nat.reduceLT, Nat.reduceLeDiff, Int.reduceNeg, Int.reduceAdd, Int.reduceSub, Int.reduceMul, Int.reduceEq, Int.reduceLT, Int.reduceLE, Int.reduceToNat, reduceIte, reduceCtorEq]
  first | refine branch_ndec (fun h1 => ?_) (fun h1 => ?_) | refine branch_dec (fun h1 => ?_) (fun h1 => ?_) | refine branch_nbool (fun h1 => ?_) (fun h1 => ?_) | refine branch_split (fun h1 => ?_) (fun h1 => ?_)
  · simp only [go_sem, Nat.reduceAdd, Nat.reduceSub, Nat.reduceMul, Nat.reduceEqDiff, Nat.reduceBEq, Nat.reduceBNe, Nat.reduceLT, Nat.reduceLeDiff, Int.reduceNeg, Int.reduceAdd, Int.reduceSub, Int.reduceMul, Int.reduceEq, Int.reduceLT, Int.reduceLE, Int.reduceToNat, reduceIte, reduceCtorEq]
    simp only [hd.1, hd.2, hok.1.1.1, hok.1.2.1, and_self]
    simp only [go_sem, Nat.reduceAdd, Nat.reduceSub, Nat.reduceMul, Nat.reduceEqDiff, Nat.reduceBEq, Nat.reduceBNe, Nat.reduceLT, Nat.reduceLeDiff, Int.reduceNeg, Int.reduceAdd, Int.reduceSub, Int.reduceMul, Int.reduceEq, Int.reduceLT, Int.reduceLE, Int.reduceToNat, reduceIte, reduceCtorEq]
    refine vm_loopK (α := Nat) (fun i => [(1, .lst false 1 (l.map boolA)), (2, .ptr true (d.enc false)), (4, .ptr true (.agg [.lst true 1 [], .lst true 2 []])), (5, .ptr true (.agg [.lst true 1 ((settleN (fun i => l.getD i false) d.late d.secs i).map strA), .lst true 2 []])), (6, .lit (.int .i64 i))]) (fun i => i ≤ d.late.length) (fun i => d.late.length - i) 0 ?_ (by omega) (by kernel_rfl) (fun _ => rfl) ?_
    · simp only [settleN]
      simp only [go_sem, Nat.reduceAdd, Nat.reduceSub, Nat.reduceMul, Nat.reduceEqDiff, Nat.reduceBEq, Nat.reduceBNe, Nat.reduceLT, Nat.reduceLeDiff, Int.reduceNeg, Int.reduceAdd, Int.reduceSub, Int.reduceMul, Int.reduceEq, Int.reduceLT, Int.reduceLE, Int.reduceToNat, reduceIte, reduceCtorEq]
      trivial
    · intro i hi _
      simp only [go_sem, Nat.reduceAdd, Nat.reduceSub, Nat.reduceMul, Nat.reduceEqDiff, Nat.reduceBEq, Nat.reduceBNe, Nat.reduceLT, Nat.reduceLeDiff, Int.reduceNeg, Int.reduceAdd, Int.reduceSub, Int.reduceMul, Int.reduceEq, Int.reduceLT, Int.reduceLE, Int.reduceToNat, reduceIte, reduceCtorEq]
      intro hl
      have stop : l.length ≤ i → settleN (fun i => l.getD i false) d.late d.secs d.late.length = settleN (fun i => l.getD i false) d.late d.secs i := fun h => by
        have := settleN_stop (fun i => l.getD i false) d.late d.secs i (d.late.length - i) fun j h1 h2 => by
          simp [List.getD, List.getElem?_eq_none (by omega : l.length ≤ j)]
        rwa [show i + (d.late.length - i) = d.late.length by omega] at this
      first | refine gj_ndec (fun h2 => ?_) (fun h2 => ?_) | refine gj_dec (fun h2 => ?_) (fun h2 => ?_) | refine gj_nbool (fun h2 => ?_) (fun h2 => ?_) | refine gj_bool (fun h2 => ?_) (fun h2 => ?_)
      · have hlt : i < d.late.length := by omega
        simp only [go_sem, Nat.reduceAdd, Nat.reduceSub, Nat.reduceMul, Nat.reduceEqDiff, Nat.reduceBEq, Nat.reduceBNe, Nat.reduceLT, Nat.reduceLeDiff, Int.reduceNeg, Int.reduceAdd, Int.reduceSub, Int.reduceMul, Int.reduceEq, Int.reduceLT, Int.reduceLE, Int.reduceToNat, reduceIte, reduceCtorEq, h2]
        intro hl2
        first | refine branch_ndec (fun h3 => ?_) (fun h3 => ?_) | refine branch_dec (fun h3 => ?_) (fun h3 => ?_) | refine branch_nbool (fun h3 => ?_) (fun h3 => ?_) | refine branch_split (fun h3 => ?_) (fun h3 => ?_)
        · have hlt2 : i < l.length := by omega
          have h0 : (0 : Int) ≤ (i : Int) := by omega
          simp only [go_sem, Nat.reduceAdd, Nat.reduceSub, Nat.reduceMul, Nat.reduceEqDiff, Nat.reduceBEq, Nat.reduceBNe, Nat.reduceLT, Nat.reduceLeDiff, Int.reduceNeg, Int.reduceAdd, Int.reduceSub, Int.reduceMul, Int.reduceEq, Int.reduceLT, Int.reduceLE, Int.reduceToNat, reduceIte, reduceCtorEq, h0, h3, hlt2]
          have hdf : l.getD i default = l.getD i false := rfl
          rw [hdf]
          have hq := Dev.ok_places h1 _ (getD_mem hlt)
          have hsl := settleN_length (fun i => l.getD i false) d.late d.secs i
          have hq2 : (d.late.getD i default).place.toNat < (settleN (fun i => l.getD i false) d.late d.secs i).length := by omega
          have hq3 : (d.late.getD i default).place < ((settleN (fun i => l.getD i false) d.late d.secs i).length : Int) := by omega
          first | refine branch_ndec (fun h4 => ?_) (fun h4 => ?_) | refine branch_dec (fun h4 => ?_) (fun h4 => ?_) | refine branch_nbool (fun h4 => ?_) (fun h4 => ?_) | refine branch_split (fun h4 => ?_) (fun h4 => ?_)
          · simp only [go_sem, Nat.reduceAdd, Nat.reduceSub, Nat.reduceMul, Nat.reduceEqDiff, Nat.reduceBEq, Nat.reduceBNe, Nat.reduceLT, Nat.reduceLeDiff, Int.reduceNeg, Int.reduceAdd, Int.reduceSub, Int.reduceMul, Int.reduceEq, Int.reduceLT, Int.reduceLE, Int.reduceToNat, reduceIte, reduceCtorEq, h0, h2, hlt, hq.1, hq2, hq3]
            simp (disch := omega) only [wrap64, wrapU64, wrapU32, wrapU8]
            refine again_intro (i + 1) (by omega) (by omega) ?_
            simp only [settleN, h4, if_true]
            simp only [go_sem, Nat.reduceAdd, Nat.reduceSub, Nat.reduceMul, Nat.reduceEqDiff, Nat.reduceBEq, Nat.reduceBNe, Nat.reduceLT, Nat.reduceLeDiff, Int.reduceNeg, Int.reduceAdd, Int.reduceSub, Int.reduceMul, Int.reduceEq, Int.reduceLT, Int.reduceLE, Int.reduceToNat, reduceIte, reduceCtorEq]
            omega
          · try simp only [go_sem, Nat.reduceAdd, Nat.reduceSub, Nat.reduceMul, Nat.reduceEqDiff, Nat.reduceBEq, Nat.reduceBNe, Nat.reduceLT, Nat.reduceLeDiff, Int.reduceNeg, Int.reduceAdd, Int.reduceSub, Int.reduceMul, Int.reduceEq, Int.reduceLT, Int.reduceLE, Int.reduceToNat, reduceIte, reduceCtorEq]
            simp (disch := omega) only [wrap64, wrapU64, wrapU32, wrapU8]
            refine again_intro (i + 1) (by omega) (by omega) ?_
            simp only [settleN, h4, Bool.false_eq_true, if_false]
            simp only [go_sem, Nat.reduceAdd, Nat.reduceSub, Nat.reduceMul, Nat.reduceEqDiff, Nat.reduceBEq, Nat.reduceBNe, Nat.reduceLT, Nat.reduceLeDiff, Int.reduceNeg, Int.reduceAdd, Int.reduceSub, Int.reduceMul, Int.reduceEq, Int.reduceLT, Int.reduceLE, Int.reduceToNat, reduceIte, reduceCtorEq]
            omega
        · have h5 := stop (by omega)
          simp only [go_sem, Nat.reduceAdd, Nat.reduceSub, Nat.reduceMul, Nat.reduceEqDiff, Nat.reduceBEq, Nat.reduceBNe, Nat.reduceLT, Nat.reduceLeDiff, Int.reduceNeg, Int.reduceAdd, Int.reduceSub, Int.reduceMul, Int.reduceEq, Int.reduceLT, Int.reduceLE, Int.reduceToNat, reduceIte, reduceCtorEq]
          simp only [Dev.cut, h1, if_true, Dev.settled, h5, List.map_nil, and_self]
      · have hie : i = d.late.length := by omega
        simp only [go_sem, Nat.reduceAdd, Nat.reduceSub, Nat.reduceMul, Nat.reduceEqDiff, Nat.reduceBEq, Nat.reduceBNe, Nat.reduceLT, Nat.reduceLeDiff, Int.reduceNeg, Int.reduceAdd, Int.reduceSub, Int.reduceMul, Int.reduceEq, Int.reduceLT, Int.reduceLE, Int.reduceToNat, reduceIte, reduceCtorEq, h2]
        simp only [Dev.cut, h1, if_true, Dev.settled, hie, List.map_nil, and_self]
  · simp only [go_sem, Nat.reduceAdd, Nat.reduceSub, Nat.reduceMul, Nat.reduceEqDiff, Nat.reduceBEq, Nat.reduceBNe, Nat.reduceLT, Nat.reduceLeDiff, Int.reduceNeg, Int.reduceAdd, Int.reduceSub, Int.reduceMul, Int.reduceEq, Int.reduceLT, Int.reduceLE, Int.reduceToNat, reduceIte, reduceCtorEq]
    simp only [Dev.cut, h1, Bool.false_eq_true, if_false, Dev.none, List.map_nil, and_self]
theorem replicate_map {n : Nat} {b : Bool} : List.map boolA (List.replicate n b) = List.replicate n (boolA b) := List.map_replicate
theorem ok112 (d : Dev) (hd : d.small) : VCalls gz 112 [d.enc false] none (fun y _ => y = d.barrier.enc true) := by
  refine VCalls.go (nt := 19) (keep := [0, 1, 2, 3, 4, 10]) (muts := []) (mvs := []) [] f112_at rfl (by kernel_rfl) rfl (by kernel_rfl) rfl (fun i h => by cases h) rfl ?_
  intro hok
  simp only [go_sem, Nat.reduceAdd, Nat.reduceSub, Nat.reduceMul, Nat.reduceEqDiff, Nat.reduceBEq, Nat.reduceBNe, Nat.reduceLT, Nat.reduceLeDiff, Int.reduceNeg, Int.reduceAdd, Int.reduceSub, Int.reduceMul, Int.reduceEq, Int.reduceLT, Int.reduceLE, Int.reduceToNat, reduceIte, reduceCtorEq] at hok
  simp only [Tryz.f112, Func.code, Option.getD_some]
  simp only [go_sem, Nat.reduceAdd, Nat.reduceSub, Nat.reduceMul, Nat.reduceEqDiff, Nat.reduceBEq, Nat.reduceBNe, Nat.reduceLT, Nat.reduceLeDiff, Int.reduceNeg, Int.reduceAdd, Int.reduceSub, Int.reduceMul, Int.reduceEq, Int.reduceLT, Int.reduceLE, Int.reduceToNat, reduceIte, reduceCtorEq]
  refine vm_loopK (α := Nat) (fun i => [(1, .ptr true (d.enc false)), (2, .ptr true (.agg [.lst true 1 [], .lst true 2 []])), (3, .lst true 1 ((List.replicate i true).map boolA)), (4, .lit (.int .i64 i))]) (fun i => i ≤ d.late.length) (fun i => d.late.length - i) 0 ?_ (by omega) (by kernel_rfl) (fun _ => rfl) ?_
  · simp only [List.replicate_zero]
    simp only [go_sem, Nat.reduceAdd, Nat.reduceSub, Nat.reduceMul, Nat.reduceEqDiff, Nat.reduceBEq, Nat.reduceBNe, Nat.reduceLT, Nat.reduceLeDiff, Int.reduceNeg, Int.reduceAdd, Int.reduceSub, Int.reduceMul, Int.reduceEq, Int.reduceLT, Int.reduceLE, Int.reduceToNat, reduceIte, reduceCtorEq]
    trivial
  · intro i hi _
    simp only [go_sem, Nat.reduceAdd, Nat.reduceSub, Nat.reduceMul, Nat.reduceEqDiff, Nat.reduceBEq, Nat.reduceBNe, Nat.reduceLT, Nat.reduceLeDiff, Int.reduceNeg, Int.reduceAdd, Int.reduceSub, Int.reduceMul, Int.reduceEq, Int.reduceLT, Int.reduceLE, Int.reduceToNat, reduceIte, reduceCtorEq]
    intro hl
    first | refine branch_ndec (fun h => ?_) (fun h => ?_) | refine branch_dec (fun h => ?_) (fun h => ?_) | refine branch_nbool (fun h => ?_) (fun h => ?_) | refine branch_split (fun h => ?_) (fun h => ?_)
    · try simp only [go_sem, Nat.reduceAdd, Nat.reduceSub, Nat.reduceMul, Nat.reduceEqDiff, Nat.reduceBEq, Nat.reduceBNe, Nat.reduceLT, Nat.reduceLeDiff, Int.reduceNeg, Int.reduceAdd, Int.reduceSub, Int.reduceMul, Int.reduceEq, Int.reduceLT, Int.reduceLE, Int.reduceToNat, reduceIte, reduceCtorEq]
      simp (disch := omega) only [wrap64, wrapU64, wrapU32, wrapU8]
      have := hd.2
      refine ⟨by simp only [List.length_replicate]; omega, ?_⟩
      refine again_intro (i + 1) (by omega) (by omega) ?_
      simp only [List.replicate_succ']
      simp only [go_sem, Nat.reduceAdd, Nat.reduceSub, Nat.reduceMul, Nat.reduceEqDiff, Nat.reduceBEq, Nat.reduceBNe, Nat.reduceLT, Nat.reduceLeDiff, Int.reduceNeg, Int.reduceAdd, Int.reduceSub, Int.reduceMul, Int.reduceEq, Int.reduceLT, Int.reduceLE, Int.reduceToNat, reduceIte, reduceCtorEq]
      omega
    · have hie : i = d.late.length := by omega
      simp only [go_sem, Nat.reduceAdd, Nat.reduceSub, Nat.reduceMul, Nat.reduceEqDiff, Nat.reduceBEq, Nat.reduceBNe, Nat.reduceLT, Nat.reduceLeDiff, Int.reduceNeg, Int.reduceAdd, Int.reduceSub, Int.reduceMul, Int.reduceEq, Int.reduceLT, Int.reduceLE, Int.reduceToNat, reduceIte, reduceCtorEq]
      refine call_lend ?_
      simp only [go_sem, Nat.reduceAdd, Nat.reduceSub, Nat.reduceMul, Nat.reduceEqDiff, Nat.reduceBEq, Nat.reduceBNe, Nat.reduceLT, Nat.reduceLeDiff, Int.reduceNeg, Int.reduceAdd, Int.reduceSub, Int.reduceMul, Int.reduceEq, Int.reduceLT, Int.reduceLE, Int.reduceToNat, reduceIte, reduceCtorEq]
      refine callN.eq (ok138 d hd _) (by simp only [go_sem, Nat.reduceAdd, Nat.reduceSub, Nat.reduceMul, Nat.reduceEqDiff, Nat.reduceBEq, Nat.reduceBNe, Nat.reduceLT, Nat.reduceLeDiff, Int.reduceNeg, Int.reduceAdd, Int.reduceSub, Int.reduceMul, Int.reduceEq, Int.reduceLT, Int.reduceLE, Int.reduceToNat, reduceIte, reduceCtorEq]) ?_
      simp only [go_sem, Nat.reduceAdd, Nat.reduceSub, Nat.reduceMul, Nat.reduceEqDiff, Nat.reduceBEq, Nat.reduceBNe, Nat.reduceLT, Nat.reduceLeDiff, Int.reduceNeg, Int.reduceAdd, Int.reduceSub, Int.reduceMul, Int.reduceEq, Int.reduceLT, Int.reduceLE, Int.reduceToNat, reduceIte, reduceCtorEq]
      have hk : d.cut (List.replicate i true) = d.barrier := by
        unfold Dev.cut Dev.barrier
        split
        · simp only [Dev.settled, Dev.mk.injEq, and_true]
          have : ∀ n, n ≤ i → settleN (fun j => (List.replicate i true).getD j false) d.late d.secs n = settleN (fun _ => true) d.late d.secs n := by
            intro n
            induction n with
            | zero => intro _; rfl
            | succ n ih =>
              intro hn
              have e : (List.replicate i true).getD n false = true := by simp [List.getD, List.getElem?_replicate, (by omega : n < i)]
              simp only [settleN, e, if_true, ih (by omega)]
          exact this _ (by omega)
        · rfl
      rw [hk]
      exact ⟨rfl, rfl⟩
/-- what lies there behind the first i patches -/
def liesN (late : List Patch) (a : Int) (s : ByteArray) : Nat → ByteArray
  | 0 => s
  | i + 1 => if (late.getD i default).place = a then (late.getD i default).text else liesN late a s i
def Dev.lies (d : Dev) (a : Int) : ByteArray := if d.ok = true ∧ 0 ≤ a ∧ a < d.secs.length then liesN d.late a (d.secs.getD a.toNat default) d.late.length else ByteArray.empty
theorem ok221 (d : Dev) (a : Int) : VCalls gz 221 [d.enc false, .lit (.int .i64 a)] none (fun y _ => y = .lit (.string (d.lies a))) := by
  refine VCalls.go (nt := 46) (keep := [0, 1, 2, 4, 5, 6, 18, 28, 38]) (muts := []) (mvs := []) [] f221_at rfl (by kernel_rfl) rfl (by kernel_rfl) rfl (fun i h => by cases h) rfl ?_
  intro hok
  simp only [go_sem, Nat.reduceAdd, Nat.reduceSub, Nat.reduceMul, Nat.reduceEqDiff, Nat.reduceBEq, Nat.reduceBNe, Nat.reduceLT, Nat.reduceLeDiff, Int.reduceNeg, Int.reduceAdd, Int.reduceSub, Int.reduceMul, Int.reduceEq, Int.reduceLT, Int.reduceLE, Int.reduceToNat, reduceIte, reduceCtorEq] at hok
  simp only [Tryz.f221, Func.code, Option.getD_some]
  simp only [go_sem, Nat.reduceAdd, Nat.reduceSub, Nat.reduceMul, Nat.reduceEqDiff, Nat.reduceBEq, Nat.reduceBNe, Nat.reduceLT, Nat.reduceLeDiff, Int.reduceNeg, Int.reduceAdd, Int.reduceSub, Int.reduceMul, Int.reduceEq, Int.reduceLT, Int.reduceLE, Int.reduceToNat, reduceIte, reduceCtorEq]
  refine call_lend ?_
  simp only [go_sem, Nat.reduceAdd, Nat.reduceSub, Nat.reduceMul, Nat.reduceEqDiff, Nat.reduceBEq, Nat.reduceBNe, Nat.reduceLT, Nat.reduceLeDiff, Int.reduceNeg, Int.reduceAdd, Int.reduceSub, Int.reduceMul, Int.reduceEq, Int.reduceLT, Int.reduceLE, Int.reduceToNat, reduceIte, reduceCtorEq]
  refine callN.eq (ok109 d) (by simp only [go_sem, Nat.reduceAdd, Nat.reduceSub, Nat.reduceMul, Nat.reduceEqDiff, Nat.reduceBEq, Nat.reduceBNe, Nat.reduceLT, Nat.reduceLeDiff, Int.reduceNeg, Int.reduceAdd, Int.reduceSub, Int.reduceMul, Int.reduceEq, Int.reduceLT, Int.reduceLE, Int.reduceToNat, reduceIte, reduceCtorEq]) ?_
  simp only [go_sem, Nat.reduceAdd, Nat.reduceSub, Nat.reduceMul, Nat.reduceEqDiff, Nat.reduceBEq, Nat.reduceBNe, Nat.reduceLT, Nat.reduceLeDiff, Int.reduceNeg, Int.reduceAdd, Int.reduceSub, Int.reduceMul, Int.reduceEq, Int.reduceLT, Int.reduceLE, Int.reduceToNat, reduceIte, reduceCtorEq]
  first | refine gj_ndec (fun h1 => ?_) (fun h1 => ?_) | refine gj_dec (fun h1 => ?_) (fun h1 => ?_) | refine gj_nbool (fun h1 => ?_) (fun h1 => ?_) | refine gj_bool (fun h1 => ?_) (fun h1 => ?_)
  · simp only [go_sem, Nat.reduceAdd, Nat.reduceSub, Nat.reduceMul, Nat.reduceEqDiff, Nat.reduceBEq, Nat.reduceBNe, Nat.reduceLT, Nat.reduceLeDiff, Int.reduceNeg, Int.reduceAdd, Int.reduceSub, Int.reduceMul, Int.reduceEq, Int.reduceLT, Int.reduceLE, Int.reduceToNat, reduceIte, reduceCtorEq, h1]
    intro hl
    try simp only [go_sem, Nat.reduceAdd, Nat.reduceSub, Nat.reduceMul, Nat.reduceEqDiff, Nat.reduceBEq, Nat.reduceBNe, Nat.reduceLT, Nat.reduceLeDiff, Int.reduceNeg, Int.reduceAdd, Int.reduceSub, Int.reduceMul, Int.reduceEq, Int.reduceLT, Int.reduceLE, Int.reduceToNat, reduceIte, reduceCtorEq]
    simp (disch := omega) only [wrap64, wrapU64, wrapU32, wrapU8]
    refine call_lend ?_
    simp only [go_sem, Nat.reduceAdd, Nat.reduceSub, Nat.reduceMul, Nat.reduceEqDiff, Nat.reduceBEq, Nat.reduceBNe, Nat.reduceLT, Nat.reduceLeDiff, Int.reduceNeg, Int.reduceAdd, Int.reduceSub, Int.reduceMul, Int.reduceEq, Int.reduceLT, Int.reduceLE, Int.reduceToNat, reduceIte, reduceCtorEq]
    refine callN.eq (ok76 _ _ _) (by simp only [go_sem, Nat.reduceAdd, Nat.reduceSub, Nat.reduceMul, Nat.reduceEqDiff, Nat.reduceBEq, Nat.reduceBNe, Nat.reduceLT, Nat.reduceLeDiff, Int.reduceNeg, Int.reduceAdd, Int.reduceSub, Int.reduceMul, Int.reduceEq, Int.reduceLT, Int.reduceLE, Int.reduceToNat, reduceIte, reduceCtorEq]) ?_
    simp only [go_sem, Nat.reduceAdd, Nat.reduceSub, Nat.reduceMul, Nat.reduceEqDiff, Nat.reduceBEq, Nat.reduceBNe, Nat.reduceLT, Nat.reduceLeDiff, Int.reduceNeg, Int.reduceAdd, Int.reduceSub, Int.reduceMul, Int.reduceEq, Int.reduceLT, Int.reduceLE, Int.reduceToNat, reduceIte, reduceCtorEq]
    first | refine branch_ndec (fun h2 => ?_) (fun h2 => ?_) | refine branch_dec (fun h2 => ?_) (fun h2 => ?_) | refine branch_nbool (fun h2 => ?_) (fun h2 => ?_) | refine branch_split (fun h2 => ?_) (fun h2 => ?_)
    · have h3 : 0 ≤ a ∧ a < d.secs.length := by omega
      simp only [go_sem, Nat.reduceAdd, Nat.reduceSub, Nat.reduceMul, Nat.reduceEqDiff, Nat.reduceBEq, Nat.reduceBNe, Nat.reduceLT, Nat.reduceLeDiff, Int.reduceNeg, Int.reduceAdd, Int.reduceSub, Int.reduceMul, Int.reduceEq, Int.reduceLT, Int.reduceLE, Int.reduceToNat, reduceIte, reduceCtorEq]
      refine ⟨h3.1, h3.2, by omega, ?_⟩
      refine vm_loopK (α := Nat) (fun i => [(1, .lit (.int .i64 a)), (2, .ptr true (d.enc false)), (5, .lit (.string (liesN d.late a (d.secs.getD a.toNat default) i))), (6, .lit (.int .i64 i))]) (fun i => i ≤ d.late.length) (fun i => d.late.length - i) 0 ?_ (by omega) (by kernel_rfl) (fun _ => rfl) ?_
      · simp only [liesN]
        simp only [go_sem, Nat.reduceAdd, Nat.reduceSub, Nat.reduceMul, Nat.reduceEqDiff, Nat.reduceBEq, Nat.reduceBNe, Nat.reduceLT, Nat.reduceLeDiff, Int.reduceNeg, Int.reduceAdd, Int.reduceSub, Int.reduceMul, Int.reduceEq, Int.reduceLT, Int.reduceLE, Int.reduceToNat, reduceIte, reduceCtorEq]
        trivial
      · intro i hi _
        simp only [go_sem, Nat.reduceAdd, Nat.reduceSub, Nat.reduceMul, Nat.reduceEqDiff, Nat.reduceBEq, Nat.reduceBNe, Nat.reduceLT, Nat.reduceLeDiff, Int.reduceNeg, Int.reduceAdd, Int.reduceSub, Int.reduceMul, Int.reduceEq, Int.reduceLT, Int.reduceLE, Int.reduceToNat, reduceIte, reduceCtorEq]
        intro _
        first | refine branch_ndec (fun h4 => ?_) (fun h4 => ?_) | refine branch_dec (fun h4 => ?_) (fun h4 => ?_) | refine branch_nbool (fun h4 => ?_) (fun h4 => ?_) | refine branch_split (fun h4 => ?_) (fun h4 => ?_)
        · have hlt : i < d.late.length := by omega
          have h0 : (0 : Int) ≤ (i : Int) := by omega
          simp only [go_sem, Nat.reduceAdd, Nat.reduceSub, Nat.reduceMul, Nat.reduceEqDiff, Nat.reduceBEq, Nat.reduceBNe, Nat.reduceLT, Nat.reduceLeDiff, Int.reduceNeg, Int.reduceAdd, Int.reduceSub, Int.reduceMul, Int.reduceEq, Int.reduceLT, Int.reduceLE, Int.reduceToNat, reduceIte, reduceCtorEq, h0, h4, hlt]
          first | refine branch_ndec (fun h5 => ?_) (fun h5 => ?_) | refine branch_dec (fun h5 => ?_) (fun h5 => ?_) | refine branch_nbool (fun h5 => ?_) (fun h5 => ?_) | refine branch_split (fun h5 => ?_) (fun h5 => ?_)
          · simp only [go_sem, Nat.reduceAdd, Nat.reduceSub, Nat.reduceMul, Nat.reduceEqDiff, Nat.reduceBEq, Nat.reduceBNe, Nat.reduceLT, Nat.reduceLeDiff, Int.reduceNeg, Int.reduceAdd, Int.reduceSub, Int.reduceMul, Int.reduceEq, Int.reduceLT, Int.reduceLE, Int.reduceToNat, reduceIte, reduceCtorEq, h0, h4, hlt]
            simp (disch := omega) only [wrap64, wrapU64, wrapU32, wrapU8]
            refine again_intro (i + 1) (by omega) (by omega) ?_
            simp only [liesN, h5, if_true]
            simp only [go_sem, Nat.reduceAdd, Nat.reduceSub, Nat.reduceMul, Nat.reduceEqDiff, Nat.reduceBEq, Nat.reduceBNe, Nat.reduceLT, Nat.reduceLeDiff, Int.reduceNeg, Int.reduceAdd, Int.reduceSub, Int.reduceMul, Int.reduceEq, Int.reduceLT, Int.reduceLE, Int.reduceToNat, reduceIte, reduceCtorEq]
            omega
          · try simp only [go_sem, Nat.reduceAdd, Nat.reduceSub, Nat.reduceMul, Nat.reduceEqDiff, Nat.reduceBEq, Nat.reduceBNe, Nat.reduceLT, Nat.reduceLeDiff, Int.reduceNeg, Int.reduceAdd, Int.reduceSub, Int.reduceMul, Int.reduceEq, Int.reduceLT, Int.reduceLE, Int.reduceToNat, reduceIte, reduceCtorEq]
            simp (disch := omega) only [wrap64, wrapU64, wrapU32, wrapU8]
            refine again_intro (i + 1) (by omega) (by omega) ?_
            simp only [liesN, h5, if_false]
            simp only [go_sem, Nat.reduceAdd, Nat.reduceSub, Nat.reduceMul, Nat.reduceEqDiff, Nat.reduceBEq, Nat.reduceBNe, Nat.reduceLT, Nat.reduceLeDiff, Int.reduceNeg, Int.reduceAdd, Int.reduceSub, Int.reduceMul, Int.reduceEq, Int.reduceLT, Int.reduceLE, Int.reduceToNat, reduceIte, reduceCtorEq]
            omega
        · have hie : i = d.late.length := by omega
          simp only [go_sem, Nat.reduceAdd, Nat.reduceSub, Nat.reduceMul, Nat.reduceEqDiff, Nat.reduceBEq, Nat.reduceBNe, Nat.reduceLT, Nat.reduceLeDiff, Int.reduceNeg, Int.reduceAdd, Int.reduceSub, Int.reduceMul, Int.reduceEq, Int.reduceLT, Int.reduceLE, Int.reduceToNat, reduceIte, reduceCtorEq]
          simp only [Dev.lies, h1, h3, hie, and_self, if_true]
    · have h3 : ¬ (0 ≤ a ∧ a < d.secs.length) := by omega
      simp only [go_sem, Nat.reduceAdd, Nat.reduceSub, Nat.reduceMul, Nat.reduceEqDiff, Nat.reduceBEq, Nat.reduceBNe, Nat.reduceLT, Nat.reduceLeDiff, Int.reduceNeg, Int.reduceAdd, Int.reduceSub, Int.reduceMul, Int.reduceEq, Int.reduceLT, Int.reduceLE, Int.reduceToNat, reduceIte, reduceCtorEq]
      simp only [Dev.lies, h3, and_false, if_false]
      rfl
  · simp only [go_sem, Nat.reduceAdd, Nat.reduceSub, Nat.reduceMul, Nat.reduceEqDiff, Nat.reduceBEq, Nat.reduceBNe, Nat.reduceLT, Nat.reduceLeDiff, Int.reduceNeg, Int.reduceAdd, Int.reduceSub, Int.reduceMul, Int.reduceEq, Int.reduceLT, Int.reduceLE, Int.reduceToNat, reduceIte, reduceCtorEq, h1]
    simp only [Dev.lies, h1, Bool.false_eq_true, false_and, if_false]
    rfl
end Go.VS

set_option linter.unusedSimpArgs false
set_option linter.unusedVariables false
open Go.Proofs
set_option maxRecDepth 20000
namespace Go.VS
theorem f23_at : gz.P.funcs[23]? = some Tryz.f23 := by
  have h : Tryz.prog.funcs[23]? = some Tryz.f23 := by kernel_rfl
  exact h
theorem f137_at : gz.P.funcs[137]? = some Tryz.f137 := by
  have h : Tryz.prog.funcs[137]? = some Tryz.f137 := by kernel_rfl
  exact h
theorem f33_at : gz.P.funcs[33]? = some Tryz.f33 := by
  have h : Tryz.prog.funcs[33]? = some Tryz.f33 := by kernel_rfl
  exact h
theorem ok23 (l : List UInt8) : VCalls gz 23 [.lst false 1 (l.map byteA)] none (fun y _ => y = .lit (.bool (decide (4096 < (l.length : Int))))) := by
  refine VCalls.go (nt := 6) (keep := [0, 2]) (muts := []) (mvs := []) [] f23_at rfl (by kernel_rfl) rfl (by kernel_rfl) rfl (fun i h => by cases h) rfl ?_
  intro hok
  simp only [go_sem, Nat.reduceAdd, Nat.reduceSub, Nat.reduceMul, Nat.reduceEqDiff, Nat.reduceBEq, Nat.reduceBNe, Nat.reduceLT, Nat.reduceLeDiff, Int.reduceNeg, Int.reduceAdd, Int.reduceSub, Int.reduceMul, Int.reduceEq, Int.reduceLT, Int.reduceLE, Int.reduceToNat, reduceIte, reduceCtorEq] at hok
  simp only [Tryz.f23, Func.code, Option.getD_some]
  simp only [go_sem, Nat.reduceAdd, Nat.reduceSub, Nat.reduceMul, Nat.reduceEqDiff, Nat.reduceBEq, Nat.reduceBNe, Nat.reduceLT, Nat.reduceLeDiff, Int.reduceNeg, Int.reduceAdd, Int.reduceSub, Int.reduceMul, Int.reduceEq, Int.reduceLT, Int.reduceLE, Int.reduceToNat, reduceIte, reduceCtorEq]
theorem ok137 (a b : List ByteArray) : VCalls gz 137 [.lst false 1 (a.map strA), .lst false 1 (b.map strA)] none (fun y _ => y = .lit (.bool (decide (a = b)))) := by
  refine VCalls.go (nt := 26) (keep := [0, 1, 4, 5, 10, 14, 25]) (muts := []) (mvs := []) [(6, .chain true [0, 1, 2, 3, 4, 5, 6, 7, 8])] f137_at rfl (by kernel_rfl) rfl (by kernel_rfl) rfl (fun i h => by cases h) rfl ?_
  intro hok
  simp only [go_sem, Nat.reduceAdd, Nat.reduceSub, Nat.reduceMul, Nat.reduceEqDiff, Nat.reduceBEq, Nat.reduceBNe, Nat.reduceLT, Nat.reduceLeDiff, Int.reduceNeg, Int.reduceAdd, Int.reduceSub, Int.reduceMul, Int.reduceEq, Int.reduceLT, Int.reduceLE, Int.reduceToNat, reduceIte, reduceCtorEq] at hok
  simp only [Tryz.f137, Func.code, Option.getD_some]
  simp only [go_sem, Nat.reduceAdd, Nat.reduceSub, Nat.reduceMul, Nat.reduceEqDiff, Nat.reduceBEq, Nat.reduceBNe, Nat.reduceLT, Nat.reduceLeDiff, Int.reduceNeg, Int.reduceAdd, Int.reduceSub, Int.reduceMul, Int.reduceEq, Int.reduceLT, Int.reduceLE, Int.reduceToNat, reduceIte, reduceCtorEq]
  intro hl1 hl2
  first | refine branch_ndec (fun h => ?_) (fun h => ?_) | refine branch_dec (fun h => ?_) (fun h => ?_) | refine branch_nbool (fun h => ?_) (fun h => ?_) | refine branch_split (fun h => ?_) (fun h => ?_)
  · simp only [go_sem, Nat.reduceAdd, Nat.reduceSub, Nat.reduceMul, Nat.reduceEqDiff, Nat.reduceBEq, Nat.reduceBNe, Nat.reduceLT, Nat.reduceLeDiff, Int.reduceNeg, Int.reduceAdd, Int.reduceSub, Int.reduceMul, Int.reduceEq, Int.reduceLT, Int.reduceLE, Int.reduceToNat, reduceIte, reduceCtorEq]
    refine vm_loopK (α := Nat) (fun i => [(0, .lst false 1 (a.map strA)), (1, .lst false 1 (b.map strA)), (5, .lit (.int .i64 i))]) (fun i => i ≤ a.length ∧ a.take i = b.take i) (fun i => a.length - i) 0 ?_ ⟨by omega, by simp⟩ (by kernel_rfl) (fun _ => rfl) ?_
    · simp only [go_sem, Nat.reduceAdd, Nat.reduceSub, Nat.reduceMul, Nat.reduceEqDiff, Nat.reduceBEq, Nat.reduceBNe, Nat.reduceLT, Nat.reduceLeDiff, Int.reduceNeg, Int.reduceAdd, Int.reduceSub, Int.reduceMul, Int.reduceEq, Int.reduceLT, Int.reduceLE, Int.reduceToNat, reduceIte, reduceCtorEq]
      trivial
    · intro i hi _
      simp only [go_sem, Nat.reduceAdd, Nat.reduceSub, Nat.reduceMul, Nat.reduceEqDiff, Nat.reduceBEq, Nat.reduceBNe, Nat.reduceLT, Nat.reduceLeDiff, Int.reduceNeg, Int.reduceAdd, Int.reduceSub, Int.reduceMul, Int.reduceEq, Int.reduceLT, Int.reduceLE, Int.reduceToNat, reduceIte, reduceCtorEq]
      intro _
      first | refine branch_ndec (fun h4 => ?_) (fun h4 => ?_) | refine branch_dec (fun h4 => ?_) (fun h4 => ?_) | refine branch_nbool (fun h4 => ?_) (fun h4 => ?_) | refine branch_split (fun h4 => ?_) (fun h4 => ?_)
      · have hlt : i < a.length := by omega
        have hlt2 : i < b.length := by omega
        have h0 : (0 : Int) ≤ (i : Int) := by omega
        have h5 : (i : Int) < b.length := by omega
        simp only [go_sem, Nat.reduceAdd, Nat.reduceSub, Nat.reduceMul, Nat.reduceEqDiff, Nat.reduceBEq, Nat.reduceBNe, Nat.reduceLT, Nat.reduceLeDiff, Int.reduceNeg, Int.reduceAdd, Int.reduceSub, Int.reduceMul, Int.reduceEq, Int.reduceLT, Int.reduceLE, Int.reduceToNat, reduceIte, reduceCtorEq, h0, h4, hlt, hlt2, h5]
        first | refine branch_ndec (fun h6 => ?_) (fun h6 => ?_) | refine branch_dec (fun h6 => ?_) (fun h6 => ?_) | refine branch_nbool (fun h6 => ?_) (fun h6 => ?_) | refine branch_split (fun h6 => ?_) (fun h6 => ?_)
        · try simp only [go_sem, Nat.reduceAdd, Nat.reduceSub, Nat.reduceMul, Nat.reduceEqDiff, Nat.reduceBEq, Nat.reduceBNe, Nat.reduceLT, Nat.reduceLeDiff, Int.reduceNeg, Int.reduceAdd, Int.reduceSub, Int.reduceMul, Int.reduceEq, Int.reduceLT, Int.reduceLE, Int.reduceToNat, reduceIte, reduceCtorEq]
          simp (disch := omega) only [wrap64, wrapU64, wrapU32, wrapU8]
          refine again_intro (i + 1) ⟨by omega, ?_⟩ (by omega) ?_
          · rw [take_succ_getD hlt, take_succ_getD hlt2, hi.2, h6]
          · simp only [go_sem, Nat.reduceAdd, Nat.reduceSub, Nat.reduceMul, Nat.reduceEqDiff, Nat.reduceBEq, Nat.reduceBNe, Nat.reduceLT, Nat.reduceLeDiff, Int.reduceNeg, Int.reduceAdd, Int.reduceSub, Int.reduceMul, Int.reduceEq, Int.reduceLT, Int.reduceLE, Int.reduceToNat, reduceIte, reduceCtorEq]
            omega
        · simp only [go_sem, Nat.reduceAdd, Nat.reduceSub, Nat.reduceMul, Nat.reduceEqDiff, Nat.reduceBEq, Nat.reduceBNe, Nat.reduceLT, Nat.reduceLeDiff, Int.reduceNeg, Int.reduceAdd, Int.reduceSub, Int.reduceMul, Int.reduceEq, Int.reduceLT, Int.reduceLE, Int.reduceToNat, reduceIte, reduceCtorEq]
          symm
          apply decide_eq_false
          intro e
          exact h6 (by rw [e])
      · simp only [go_sem, Nat.reduceAdd, Nat.reduceSub, Nat.reduceMul, Nat.reduceEqDiff, Nat.reduceBEq, Nat.reduceBNe, Nat.reduceLT, Nat.reduceLeDiff, Int.reduceNeg, Int.reduceAdd, Int.reduceSub, Int.reduceMul, Int.reduceEq, Int.reduceLT, Int.reduceLE, Int.reduceToNat, reduceIte, reduceCtorEq]
        symm
        apply decide_eq_true
        have := hi.2
        rwa [List.take_of_length_le (by omega), List.take_of_length_le (by omega)] at this
  · simp only [go_sem, Nat.reduceAdd, Nat.reduceSub, Nat.reduceMul, Nat.reduceEqDiff, Nat.reduceBEq, Nat.reduceBNe, Nat.reduceLT, Nat.reduceLeDiff, Int.reduceNeg, Int.reduceAdd, Int.reduceSub, Int.reduceMul, Int.reduceEq, Int.reduceLT, Int.reduceLE, Int.reduceToNat, reduceIte, reduceCtorEq]
    symm
    apply decide_eq_false
    intro e
    exact h (by rw [e])
theorem Patch.same {p q : Patch} (h1 : p.place = q.place) (h2 : p.text = q.text) : p = q := by
  cases p
  cases q
  simp only at h1 h2
  rw [h1, h2]
def Dev.like (a b : Dev) : Bool := decide (a.secs = b.secs) && decide (a.late = b.late)
theorem ok33 (a b : Dev) : VCalls gz 33 [a.enc false, b.enc false] none (fun y _ => y = .lit (.bool (a.like b))) := by
  refine VCalls.go (nt := 39) (keep := [0, 1, 2, 3, 4, 5, 20, 25, 38]) (muts := []) (mvs := []) [(6, .chain true [0, 1, 2, 3, 4, 5, 6, 7, 8, 9, 10])] f33_at rfl (by kernel_rfl) rfl (by kernel_rfl) rfl (fun i h => by cases h) rfl ?_
  intro hok
  simp only [go_sem, Nat.reduceAdd, Nat.reduceSub, Nat.reduceMul, Nat.reduceEqDiff, Nat.reduceBEq, Nat.reduceBNe, Nat.reduceLT, Nat.reduceLeDiff, Int.reduceNeg, Int.reduceAdd, Int.reduceSub, Int.reduceMul, Int.reduceEq, Int.reduceLT, Int.reduceLE, Int.reduceToNat, reduceIte, reduceCtorEq] at hok
  simp only [Tryz.f33, Func.code, Option.getD_some]
  simp only [go_sem, Nat.reduceAdd, Nat.reduceSub, Nat.reduceMul, Nat.reduceEqDiff, Nat.reduceBEq, Nat.reduceBNe, Nat.reduceLT, Nat.reduceLeDiff, Int.reduceNeg, Int.reduceAdd, Int.reduceSub, Int.reduceMul, Int.reduceEq, Int.reduceLT, Int.reduceLE, Int.reduceToNat, reduceIte, reduceCtorEq]
  refine call_lend ?_
  simp only [go_sem, Nat.reduceAdd, Nat.reduceSub, Nat.reduceMul, Nat.reduceEqDiff, Nat.reduceBEq, Nat.reduceBNe, Nat.reduceLT, Nat.reduceLeDiff, Int.reduceNeg, Int.reduceAdd, Int.reduceSub, Int.reduceMul, Int.reduceEq, Int.reduceLT, Int.reduceLE, Int.reduceToNat, reduceIte, reduceCtorEq]
  refine callN.eq (ok137 _ _) (by simp only [go_sem, Nat.reduceAdd, Nat.reduceSub, Nat.reduceMul, Nat.reduceEqDiff, Nat.reduceBEq, Nat.reduceBNe, Nat.reduceLT, Nat.reduceLeDiff, Int.reduceNeg, Int.reduceAdd, Int.reduceSub, Int.reduceMul, Int.reduceEq, Int.reduceLT, Int.reduceLE, Int.reduceToNat, reduceIte, reduceCtorEq]) ?_
  simp only [go_sem, Nat.reduceAdd, Nat.reduceSub, Nat.reduceMul, Nat.reduceEqDiff, Nat.reduceBEq, Nat.reduceBNe, Nat.reduceLT, Nat.reduceLeDiff, Int.reduceNeg, Int.reduceAdd, Int.reduceSub, Int.reduceMul, Int.reduceEq, Int.reduceLT, Int.reduceLE, Int.reduceToNat, reduceIte, reduceCtorEq]
  first | refine gj_ndec (fun h => ?_) (fun h => ?_) | refine gj_dec (fun h => ?_) (fun h => ?_) | refine gj_nbool (fun h => ?_) (fun h => ?_) | refine gj_bool (fun h => ?_) (fun h => ?_)
  · simp only [go_sem, Nat.reduceAdd, Nat.reduceSub, Nat.reduceMul, Nat.reduceEqDiff, Nat.reduceBEq, Nat.reduceBNe, Nat.reduceLT, Nat.reduceLeDiff, Int.reduceNeg, Int.reduceAdd, Int.reduceSub, Int.reduceMul, Int.reduceEq, Int.reduceLT, Int.reduceLE, Int.reduceToNat, reduceIte, reduceCtorEq, eq_true h]
    intro hl1 hl2
    first | refine branch_ndec (fun h2 => ?_) (fun h2 => ?_) | refine branch_dec (fun h2 => ?_) (fun h2 => ?_) | refine branch_nbool (fun h2 => ?_) (fun h2 => ?_) | refine branch_split (fun h2 => ?_) (fun h2 => ?_)
    · simp only [go_sem, Nat.reduceAdd, Nat.reduceSub, Nat.reduceMul, Nat.reduceEqDiff, Nat.reduceBEq, Nat.reduceBNe, Nat.reduceLT, Nat.reduceLeDiff, Int.reduceNeg, Int.reduceAdd, Int.reduceSub, Int.reduceMul, Int.reduceEq, Int.reduceLT, Int.reduceLE, Int.reduceToNat, reduceIte, reduceCtorEq]
      refine vm_loopK (α := Nat) (fun i => [(2, .ptr true (a.enc false)), (3, .ptr true (b.enc false)), (5, .lit (.int .i64 i))]) (fun i => i ≤ a.late.length ∧ a.late.take i = b.late.take i) (fun i => a.late.length - i) 0 ?_ ⟨by omega, by simp⟩ (by kernel_rfl) (fun _ => rfl) ?_
      · simp only [go_sem, Nat.reduceAdd, Nat.reduceSub, Nat.reduceMul, Nat.reduceEqDiff, Nat.reduceBEq, Nat.reduceBNe, Nat.reduceLT, Nat.reduceLeDiff, Int.reduceNeg, Int.reduceAdd, Int.reduceSub, Int.reduceMul, Int.reduceEq, Int.reduceLT, Int.reduceLE, Int.reduceToNat, reduceIte, reduceCtorEq]
        trivial
      · intro i hi _
        simp only [go_sem, Nat.reduceAdd, Nat.reduceSub, Nat.reduceMul, Nat.reduceEqDiff, Nat.reduceBEq, Nat.reduceBNe, Nat.reduceLT, Nat.reduceLeDiff, Int.reduceNeg, Int.reduceAdd, Int.reduceSub, Int.reduceMul, Int.reduceEq, Int.reduceLT, Int.reduceLE, Int.reduceToNat, reduceIte, reduceCtorEq]
        intro _
        first | refine branch_ndec (fun h4 => ?_) (fun h4 => ?_) | refine branch_dec (fun h4 => ?_) (fun h4 => ?_) | refine branch_nbool (fun h4 => ?_) (fun h4 => ?_) | refine branch_split (fun h4 => ?_) (fun h4 => ?_)
        · have hlt : i < a.late.length := by omega
          have hlt2 : i < b.late.length := by omega
          have h0 : (0 : Int) ≤ (i : Int) := by omega
          have h5 : (i : Int) < b.late.length := by omega
          simp only [go_sem, Nat.reduceAdd, Nat.reduceSub, Nat.reduceMul, Nat.reduceEqDiff, Nat.reduceBEq, Nat.reduceBNe, Nat.reduceLT, Nat.reduceLeDiff, Int.reduceNeg, Int.reduceAdd, Int.reduceSub, Int.reduceMul, Int.reduceEq, Int.reduceLT, Int.reduceLE, Int.reduceToNat, reduceIte, reduceCtorEq, h0, h4, hlt, hlt2, h5]
          first | refine branch_ndec (fun h6 => ?_) (fun h6 => ?_) | refine branch_dec (fun h6 => ?_) (fun h6 => ?_) | refine branch_nbool (fun h6 => ?_) (fun h6 => ?_) | refine branch_split (fun h6 => ?_) (fun h6 => ?_)
          · simp only [Bool.and_true, Bool.and_eq_true, decide_eq_true_eq] at h6
            have h7 := Patch.same h6.1 h6.2
            try simp only [go_sem, Nat.reduceAdd, Nat.reduceSub, Nat.reduceMul, Nat.reduceEqDiff, Nat.reduceBEq, Nat.reduceBNe, Nat.reduceLT, Nat.reduceLeDiff, Int.reduceNeg, Int.reduceAdd, Int.reduceSub, Int.reduceMul, Int.reduceEq, Int.reduceLT, Int.reduceLE, Int.reduceToNat, reduceIte, reduceCtorEq]
            simp (disch := omega) only [wrap64, wrapU64, wrapU32, wrapU8]
            refine again_intro (i + 1) ⟨by omega, ?_⟩ (by omega) ?_
            · rw [take_succ_getD hlt, take_succ_getD hlt2, hi.2, h7]
            · simp only [go_sem, Nat.reduceAdd, Nat.reduceSub, Nat.reduceMul, Nat.reduceEqDiff, Nat.reduceBEq, Nat.reduceBNe, Nat.reduceLT, Nat.reduceLeDiff, Int.reduceNeg, Int.reduceAdd, Int.reduceSub, Int.reduceMul, Int.reduceEq, Int.reduceLT, Int.reduceLE, Int.reduceToNat, reduceIte, reduceCtorEq]
              omega
          · simp only [Bool.and_true, Bool.and_eq_false_iff, decide_eq_false_iff_not] at h6
            simp only [go_sem, Nat.reduceAdd, Nat.reduceSub, Nat.reduceMul, Nat.reduceEqDiff, Nat.reduceBEq, Nat.reduceBNe, Nat.reduceLT, Nat.reduceLeDiff, Int.reduceNeg, Int.reduceAdd, Int.reduceSub, Int.reduceMul, Int.reduceEq, Int.reduceLT, Int.reduceLE, Int.reduceToNat, reduceIte, reduceCtorEq]
            symm
            simp only [Dev.like, Bool.and_eq_false_iff]
            right
            apply decide_eq_false
            intro e
            rw [e] at h6
            rcases h6 with h6 | h6 <;> exact h6 rfl
        · simp only [go_sem, Nat.reduceAdd, Nat.reduceSub, Nat.reduceMul, Nat.reduceEqDiff, Nat.reduceBEq, Nat.reduceBNe, Nat.reduceLT, Nat.reduceLeDiff, Int.reduceNeg, Int.reduceAdd, Int.reduceSub, Int.reduceMul, Int.reduceEq, Int.reduceLT, Int.reduceLE, Int.reduceToNat, reduceIte, reduceCtorEq]
          symm
          simp only [Dev.like, h, decide_true, Bool.true_and]
          apply decide_eq_true
          have := hi.2
          rwa [List.take_of_length_le (by omega), List.take_of_length_le (by omega)] at this
    · simp only [go_sem, Nat.reduceAdd, Nat.reduceSub, Nat.reduceMul, Nat.reduceEqDiff, Nat.reduceBEq, Nat.reduceBNe, Nat.reduceLT, Nat.reduceLeDiff, Int.reduceNeg, Int.reduceAdd, Int.reduceSub, Int.reduceMul, Int.reduceEq, Int.reduceLT, Int.reduceLE, Int.reduceToNat, reduceIte, reduceCtorEq]
      symm
      simp only [Dev.like, Bool.and_eq_false_iff]
      right
      apply decide_eq_false
      intro e
      exact h2 (by rw [e])
  · simp only [go_sem, Nat.reduceAdd, Nat.reduceSub, Nat.reduceMul, Nat.reduceEqDiff, Nat.reduceBEq, Nat.reduceBNe, Nat.reduceLT, Nat.reduceLeDiff, Int.reduceNeg, Int.reduceAdd, Int.reduceSub, Int.reduceMul, Int.reduceEq, Int.reduceLT, Int.reduceLE, Int.reduceToNat, reduceIte, reduceCtorEq, h]
    simp only [Dev.like, h, decide_false, Bool.false_and]
end Go.VS
