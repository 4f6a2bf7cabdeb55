/- VS: functions by the machine. -/
import Derived.Test.YtbpjfoaafgmeaaaGreatDoorVl
import Derived.Test.YtbpjfoaafgmeaaaGreatDoorVj
set_option linter.unusedSimpArgs false
set_option linter.unusedVariables false
open Go.Proofs
set_option maxRecDepth 20000
namespace Go.VS
theorem f10_at : gz.P.funcs[10]? = some Tryz.f10 := by
  have h : Tryz.prog.funcs[10]? = some Tryz.f10 := by kernel_rfl
  exact h
def nwOk (n : Int) (x : Nws) : Bool := decide (0 ≤ x.src ∧ x.src ≤ n - 1) && decide (1 ≤ x.view ∧ x.view ≤ 100000)
def Rpl.hd (r : Rpl) : Bool := srv r.n && (decide (0 ≤ r.id ∧ r.id ≤ r.n - 1) && (decide (1 ≤ r.view ∧ r.view ≤ 100000) && (decide (0 ≤ r.voted ∧ r.voted ≤ 100000) && (decide (0 ≤ r.locked ∧ r.locked ≤ 100000) && decide (0 ≤ r.proposed ∧ r.proposed ≤ 100000)))))
def Rpl.hd2 (r : Rpl) : Bool := r.high.ok r.n && (decide (r.blocks.length ≤ 60) && (decide (r.votes.length ≤ 60) && decide (r.news.length ≤ 30)))
/-- the round of a block -/
def Rpl.bk (r : Rpl) (i : Nat) : Bool := (r.blocks.getD i default).ok r.n && (knwB (r.blocks.take i) (r.blocks.getD i default).proof && (List.range i).all fun k => !decide ((r.blocks.getD k default).nm = (r.blocks.getD i default).nm))
/-- is a replica right? (as the reference asks) -/
def Rpl.ok (r : Rpl) : Bool := r.hd && (r.hd2 && ((List.range r.blocks.length).all r.bk && (r.votes.all (fun v => v.ok r.n) && (r.news.all (nwOk r.n) && (knwB r.blocks r.high && dnB r.blocks r.done)))))
theorem Rpl.ok_hd {r : Rpl} (h : r.hd = false) : r.ok = false := by simp only [Rpl.ok, h, Bool.false_and]
theorem Rpl.ok_hd2 {r : Rpl} (h : r.hd2 = false) : r.ok = false := by simp only [Rpl.ok, h, Bool.false_and, Bool.and_false]
theorem Rpl.ok_bk {r : Rpl} {i : Nat} (hi : i < r.blocks.length) (h : r.bk i = false) : r.ok = false := by
  have : (List.range r.blocks.length).all r.bk = false := List.all_eq_false.2 ⟨i, List.mem_range.2 hi, by simp [h]⟩
  simp only [Rpl.ok, this, Bool.false_and, Bool.and_false]
theorem Rpl.ok_vt {r : Rpl} {i : Nat} (hi : i < r.votes.length) (h : (r.votes.getD i default).ok r.n = false) : r.ok = false := by
  have : r.votes.all (fun v => v.ok r.n) = false := List.all_eq_false.2 ⟨_, getD_mem hi, by rw [h]; decide⟩
  simp only [Rpl.ok, this, Bool.false_and, Bool.and_false]
theorem Rpl.ok_nw {r : Rpl} {i : Nat} (hi : i < r.news.length) (h : nwOk r.n (r.news.getD i default) = false) : r.ok = false := by
  have : r.news.all (nwOk r.n) = false := List.all_eq_false.2 ⟨_, getD_mem hi, by rw [h]; decide⟩
  simp only [Rpl.ok, this, Bool.false_and, Bool.and_false]
set_option maxHeartbeats 4000000 in
theorem ok10 (r : Rpl) : VCalls gz 10 [r.enc false] none (fun y _ => y = .lit (.bool r.ok)) := by
  refine VCalls.go (nt := 166) (keep := [0, 1, 2, 3, 4, 5, 6, 7, 44, 68, 73, 95, 98, 109, 114, 125, 130, 153]) (muts := []) (mvs := []) [(9, .tree true (.take 0 (.take 1 (.take 2 (.all (.cons 3 (.take 4 (.take 5 (.take 6 (.take 7 (.take 8 (.take 10 (.take 11 (.all (.cons 9 (.all (.cons 12 (.take 13 (.take 14 .done)) .nil)) .nil))))))))) .nil)))))), (14, .tree true (.take 0 (.take 1 (.take 2 (.take 3 (.take 4 (.take 6 (.all (.cons 5 (.all (.cons 7 (.take 8 .done) .nil)) .nil))))))))), (19, .tree true (.take 0 (.take 1 (.take 2 (.take 3 (.take 4 (.take 5 (.take 6 (.all (.cons 7 (.take 8 .done) .nil)))))))))), (24, .tree true (.take 0 (.take 1 (.take 2 (.take 3 (.take 4 (.take 5 (.take 6 (.take 7 (.take 8 (.all (.cons 9 (.take 10 (.take 11 (.take 12 (.take 13 (.take 14 (.take 15 (.take 16 (.take 17 (.all (.cons 18 (.take 19 (.take 20 .done)) .nil)))))))))) .nil))))))))))))] f10_at rfl (by kernel_rfl) rfl (by kernel_rfl) rfl (fun i h => by cases h) rfl ?_
  intro hok
  simp only [go_sem] at hok
  simp only [Tryz.f10, Func.code, Option.getD_some]
  simp only [go_sem]
  refine call_lend ?_
  simp only [go_sem]
  refine callN.eq (ok37 r.n) (by simp only [go_sem]) ?_
  simp only [go_sem]
  cases h : srv r.n
  · simp only [go_sem, Rpl.ok_hd (r := r) (by simp only [Rpl.hd, h, Bool.false_and])]
  have hn := srv_iff.1 h
  have hw : IntKind.i64.wrap (r.n - 1) = r.n - 1 := wrap64 (by omega) (by omega)
  simp only [go_sem, hw]
  refine call_lend ?_
  simp only [go_sem]
  refine callN.eq (ok38 r.id 0 (r.n - 1)) (by simp only [go_sem]) ?_
  simp only [go_sem]
  by_cases h2 : 0 ≤ r.id ∧ r.id ≤ r.n - 1
  rotate_left
  · simp only [go_sem, eq_false h2, Rpl.ok_hd (r := r) (by simp only [Rpl.hd, eq_false h2, decide_false, Bool.false_and, Bool.and_false])]
  simp only [go_sem, eq_true h2]
  refine call_lend ?_
  simp only [go_sem]
  refine callN.eq (ok38 r.view 1 100000) (by simp only [go_sem]) ?_
  simp only [go_sem]
  by_cases h3 : 1 ≤ r.view ∧ r.view ≤ 100000
  rotate_left
  · simp only [go_sem, eq_false h3, Rpl.ok_hd (r := r) (by simp only [Rpl.hd, eq_false h3, decide_false, Bool.false_and, Bool.and_false])]
  simp only [go_sem, eq_true h3]
  refine call_lend ?_
  simp only [go_sem]
  refine callN.eq (ok39 r.voted) (by simp only [go_sem]) ?_
  simp only [go_sem]
  by_cases h4 : 0 ≤ r.voted ∧ r.voted ≤ 100000
  rotate_left
  · simp only [go_sem, eq_false h4, Rpl.ok_hd (r := r) (by simp only [Rpl.hd, eq_false h4, decide_false, Bool.false_and, Bool.and_false])]
  simp only [go_sem, eq_true h4]
  refine call_lend ?_
  simp only [go_sem]
  refine callN.eq (ok39 r.locked) (by simp only [go_sem]) ?_
  simp only [go_sem]
  by_cases h5 : 0 ≤ r.locked ∧ r.locked ≤ 100000
  rotate_left
  · simp only [go_sem, eq_false h5, Rpl.ok_hd (r := r) (by simp only [Rpl.hd, eq_false h5, decide_false, Bool.false_and, Bool.and_false])]
  simp only [go_sem, eq_true h5]
  refine call_lend ?_
  simp only [go_sem]
  refine callN.eq (ok39 r.proposed) (by simp only [go_sem]) ?_
  simp only [go_sem]
  by_cases h6 : 0 ≤ r.proposed ∧ r.proposed ≤ 100000
  rotate_left
  · simp only [go_sem, eq_false h6, Rpl.ok_hd (r := r) (by simp only [Rpl.hd, eq_false h6, decide_false, Bool.false_and, Bool.and_false])]
  simp only [go_sem, eq_true h6]
  refine call_lend ?_
  simp only [go_sem]
  refine callN.eq (ok40 r.high r.n) (by simp only [go_sem]) ?_
  simp only [go_sem]
  cases h7 : r.high.ok r.n
  · simp only [go_sem, Rpl.ok_hd2 (r := r) (by simp only [Rpl.hd2, h7, Bool.false_and])]
  simp only [go_sem]
  intro hm1
  by_cases h8 : 60 < (r.blocks.length : Int)
  · simp only [go_sem, eq_true h8, Rpl.ok_hd2 (r := r) (by simp only [Rpl.hd2, decide_eq_false (show ¬ r.blocks.length ≤ 60 by omega), Bool.false_and, Bool.and_false])]
  simp only [go_sem, h8]
  intro hm2
  by_cases h9 : 60 < (r.votes.length : Int)
  · simp only [go_sem, eq_true h9, Rpl.ok_hd2 (r := r) (by simp only [Rpl.hd2, decide_eq_false (show ¬ r.votes.length ≤ 60 by omega), Bool.false_and, Bool.and_false])]
  simp only [go_sem, h9]
  intro hm3
  by_cases h10 : 30 < (r.news.length : Int)
  · simp only [go_sem, eq_true h10, Rpl.ok_hd2 (r := r) (by simp only [Rpl.hd2, decide_eq_false (show ¬ r.news.length ≤ 30 by omega), Bool.false_and, Bool.and_false])]
  simp only [go_sem, h10]
  have hhd : r.hd = true := by simp only [Rpl.hd, h, decide_eq_true h2, decide_eq_true h3, decide_eq_true h4, decide_eq_true h5, decide_eq_true h6, Bool.and_self]
  have hhd2 : r.hd2 = true := by simp only [Rpl.hd2, h7, decide_eq_true (show r.blocks.length ≤ 60 by omega), decide_eq_true (show r.votes.length ≤ 60 by omega), decide_eq_true (show r.news.length ≤ 30 by omega), Bool.and_self]
  refine vm_loopK (α := Nat) (fun i => [(1, .ptr true (r.enc false)), (2, .lit (.bool false)), (3, .lit (.int .i64 i))]) (fun i => i ≤ r.blocks.length ∧ ∀ j, j < i → r.bk j = true) (fun i => r.blocks.length - i) 0 ?_ ⟨by omega, fun j hj => by omega⟩ (by kernel_rfl) (fun _ => rfl) ?_
  · simp only [go_sem]
    try rfl
  · rintro i ⟨hi, he⟩ hk
    simp only [go_sem]
    intro _
    first | refine branch_ndec (fun h11 => ?_) (fun h11 => ?_) | refine branch_dec (fun h11 => ?_) (fun h11 => ?_) | refine branch_nbool (fun h11 => ?_) (fun h11 => ?_) | refine branch_split (fun h11 => ?_) (fun h11 => ?_)
    · have hlt : i < r.blocks.length := by omega
      have h0 : (0 : Int) ≤ (i : Int) := by omega
      have hw3 : IntKind.i64.wrap ((i : Int) + 1) = ((i + 1 : Nat) : Int) := by rw [wrap64 (by omega) (by omega)]; omega
      simp only [go_sem, h0, hlt, h11]
      refine call_lend ?_
      simp only [go_sem]
      refine callN.eq (ok41 (r.blocks.getD i default) r.n) (by simp only [go_sem]) ?_
      simp only [go_sem]
      cases hb : (r.blocks.getD i default).ok r.n
      · have : r.bk i = false := by simp only [Rpl.bk, hb, Bool.false_and]
        simp only [go_sem, Rpl.ok_bk hlt this]
      have h12 : (i : Int) ≤ (r.blocks.length : Int) := by omega
      have h13 : i ≤ r.blocks.length := hi
      simp only [go_sem, h0, h11, h12, h13, hlt, Nat.sub_zero]
      refine call_lend ?_
      simp only [go_sem]
      refine callN.eq (ok42 (r.blocks.take i) (r.blocks.getD i default).proof) (by simp only [go_sem]) ?_
      simp only [go_sem]
      cases hkn : knwB (r.blocks.take i) (r.blocks.getD i default).proof
      · have : r.bk i = false := by simp only [Rpl.bk, hkn, Bool.false_and, Bool.and_false]
        simp only [go_sem, Rpl.ok_bk hlt this]
      simp only [go_sem]
      refine vm_loopK (α := Nat) (fun k => [(1, .ptr true (r.enc false)), (2, .lit (.bool false)), (3, .lit (.int .i64 i)), (4, .ptr true ((r.blocks.getD i default).enc false)), (5, .lit (.int .i64 k))]) (fun k => k ≤ i ∧ ∀ j, j < k → ¬ (r.blocks.getD j default).nm = (r.blocks.getD i default).nm) (fun k => i - k) 0 ?_ ⟨by omega, fun j hj => by omega⟩ (by kernel_rfl) (fun _ => rfl) ?_
      · simp only [go_sem]
        try rfl
      · rintro k ⟨hk2, he2⟩ hkk
        simp only [go_sem]
        first | refine branch_ndec (fun h14 => ?_) (fun h14 => ?_) | refine branch_dec (fun h14 => ?_) (fun h14 => ?_) | refine branch_nbool (fun h14 => ?_) (fun h14 => ?_) | refine branch_split (fun h14 => ?_) (fun h14 => ?_)
        · have hlt2 : k < r.blocks.length := by omega
          have h02 : (0 : Int) ≤ (k : Int) := by omega
          have h15 : (k : Int) < (r.blocks.length : Int) := by omega
          have hw4 : IntKind.i64.wrap ((k : Int) + 1) = ((k + 1 : Nat) : Int) := by rw [wrap64 (by omega) (by omega)]; omega
          simp only [go_sem, h02, hlt2, h15]
          refine call_lend ?_
          simp only [go_sem]
          refine callN.eq (ok43 (r.blocks.getD k default)) (by simp only [go_sem]) ?_
          simp only [go_sem]
          refine call_lend ?_
          simp only [go_sem]
          refine callN.eq (ok43 (r.blocks.getD i default)) (by simp only [go_sem]) ?_
          simp only [go_sem]
          first | refine branch_ndec (fun h16 => ?_) (fun h16 => ?_) | refine branch_dec (fun h16 => ?_) (fun h16 => ?_) | refine branch_nbool (fun h16 => ?_) (fun h16 => ?_) | refine branch_split (fun h16 => ?_) (fun h16 => ?_)
          · have : r.bk i = false := by
              have : ((List.range i).all fun k => !decide ((r.blocks.getD k default).nm = (r.blocks.getD i default).nm)) = false := List.all_eq_false.2 ⟨k, List.mem_range.2 (by omega), by rw [decide_eq_true h16]; decide⟩
              simp only [Rpl.bk, this, Bool.and_false]
            simp only [go_sem, Rpl.ok_bk hlt this]
          · simp only [go_sem, hw4]
            refine again_intro (k + 1) ⟨by omega, nx he2 h16⟩ (by omega) ?_
            simp only [go_sem]
            try rfl
        · have hbi : r.bk i = true := by
            have : ((List.range i).all fun k => !decide ((r.blocks.getD k default).nm = (r.blocks.getD i default).nm)) = true := List.all_eq_true.2 fun x hx => by
              rw [decide_eq_false (he2 x (by have := List.mem_range.1 hx; omega))]
              rfl
            simp only [Rpl.bk, hb, hkn, this, Bool.and_self]
          simp only [go_sem, hw3]
          refine again_intro (i + 1) ⟨by omega, nx he hbi⟩ (by omega) ?_
          simp only [go_sem]
          try rfl
    · have hbk : (List.range r.blocks.length).all r.bk = true := List.all_eq_true.2 fun x hx => he x (by have := List.mem_range.1 hx; omega)
      simp only [go_sem]
      refine vm_loopK (α := Nat) (fun i => [(1, .ptr true (r.enc false)), (2, .lit (.bool false)), (6, .lit (.int .i64 i))]) (fun i => i ≤ r.votes.length ∧ ∀ j, j < i → (r.votes.getD j default).ok r.n = true) (fun i => r.votes.length - i) 0 ?_ ⟨by omega, fun j hj => by omega⟩ (by kernel_rfl) (fun _ => rfl) ?_
      · simp only [go_sem]
        try rfl
      · rintro k ⟨hk2, he2⟩ hkk
        simp only [go_sem]
        intro _
        first | refine branch_ndec (fun h14 => ?_) (fun h14 => ?_) | refine branch_dec (fun h14 => ?_) (fun h14 => ?_) | refine branch_nbool (fun h14 => ?_) (fun h14 => ?_) | refine branch_split (fun h14 => ?_) (fun h14 => ?_)
        · have hlt2 : k < r.votes.length := by omega
          have h02 : (0 : Int) ≤ (k : Int) := by omega
          have hw4 : IntKind.i64.wrap ((k : Int) + 1) = ((k + 1 : Nat) : Int) := by rw [wrap64 (by omega) (by omega)]; omega
          simp only [go_sem, h02, hlt2, h14]
          refine call_lend ?_
          simp only [go_sem]
          refine callN.eq (ok44 (r.votes.getD k default) r.n) (by simp only [go_sem]) ?_
          simp only [go_sem]
          cases hv : (r.votes.getD k default).ok r.n
          · simp only [go_sem, Rpl.ok_vt hlt2 hv]
          · simp only [go_sem, hw4]
            refine again_intro (k + 1) ⟨by omega, nx he2 hv⟩ (by omega) ?_
            simp only [go_sem]
            try rfl
        · have hvt : r.votes.all (fun v => v.ok r.n) = true := List.all_eq_true.2 fun x hx => by
            obtain ⟨j, hj, rfl⟩ := List.mem_iff_getElem.1 hx
            rw [getElem_D hj]
            exact he2 j (by omega)
          simp only [go_sem]
          refine vm_loopK (α := Nat) (fun i => [(1, .ptr true (r.enc false)), (2, .lit (.bool false)), (7, .lit (.int .i64 i))]) (fun i => i ≤ r.news.length ∧ ∀ j, j < i → nwOk r.n (r.news.getD j default) = true) (fun i => r.news.length - i) 0 ?_ ⟨by omega, fun j hj => by omega⟩ (by kernel_rfl) (fun _ => rfl) ?_
          · simp only [go_sem]
            try rfl
          · rintro m ⟨hm4, he3⟩ hkm
            simp only [go_sem]
            intro _
            first | refine branch_ndec (fun h15 => ?_) (fun h15 => ?_) | refine branch_dec (fun h15 => ?_) (fun h15 => ?_) | refine branch_nbool (fun h15 => ?_) (fun h15 => ?_) | refine branch_split (fun h15 => ?_) (fun h15 => ?_)
            · have hlt3 : m < r.news.length := by omega
              have h03 : (0 : Int) ≤ (m : Int) := by omega
              have hw5 : IntKind.i64.wrap ((m : Int) + 1) = ((m + 1 : Nat) : Int) := by rw [wrap64 (by omega) (by omega)]; omega
              simp only [go_sem, h03, hlt3, h15, hw]
              refine call_lend ?_
              simp only [go_sem]
              refine callN.eq (ok38 (r.news.getD m default).src 0 (r.n - 1)) (by simp only [go_sem]) ?_
              simp only [go_sem]
              by_cases h16 : 0 ≤ (r.news.getD m default).src ∧ (r.news.getD m default).src ≤ r.n - 1
              rotate_left
              · simp only [go_sem, eq_false h16, Rpl.ok_nw hlt3 (by simp only [nwOk, eq_false h16, decide_false, Bool.false_and])]
              simp only [go_sem, eq_true h16, h03, hlt3, h15]
              refine call_lend ?_
              simp only [go_sem]
              refine callN.eq (ok38 (r.news.getD m default).view 1 100000) (by simp only [go_sem]) ?_
              simp only [go_sem]
              by_cases h17 : 1 ≤ (r.news.getD m default).view ∧ (r.news.getD m default).view ≤ 100000
              rotate_left
              · simp only [go_sem, eq_false h17, Rpl.ok_nw hlt3 (by simp only [nwOk, eq_false h17, decide_false, Bool.and_false])]
              simp only [go_sem, eq_true h17, hw5]
              refine again_intro (m + 1) ⟨by omega, nx he3 (by simp only [nwOk, decide_eq_true h16, decide_eq_true h17, Bool.and_self])⟩ (by omega) ?_
              simp only [go_sem]
              try rfl
            · have hnw : r.news.all (nwOk r.n) = true := List.all_eq_true.2 fun x hx => by
                obtain ⟨j, hj, rfl⟩ := List.mem_iff_getElem.1 hx
                rw [getElem_D hj]
                exact he3 j (by omega)
              have hfin : r.ok = (knwB r.blocks r.high && dnB r.blocks r.done) := by simp only [Rpl.ok, hhd, hhd2, hbk, hvt, hnw, Bool.true_and]
              simp only [go_sem]
              refine call_lend ?_
              simp only [go_sem]
              refine callN.eq (ok42 r.blocks r.high) (by simp only [go_sem]) ?_
              simp only [go_sem]
              cases hkb : knwB r.blocks r.high
              · simp only [go_sem, hfin, hkb, Bool.false_and]
              · simp only [go_sem]
                refine call_lend ?_
                simp only [go_sem]
                refine callN.eq (ok45 r.blocks r.done) (by simp only [go_sem]) ?_
                simp only [go_sem]
                rw [hfin, hkb, Bool.true_and]
end Go.VS

set_option linter.unusedSimpArgs false
set_option linter.unusedVariables false
open Go.Proofs
set_option maxRecDepth 20000
namespace Go.VS
theorem f61_at : gz.P.funcs[61]? = some Tryz.f61 := by
  have h : Tryz.prog.funcs[61]? = some Tryz.f61 := by kernel_rfl
  exact h
theorem f64_at : gz.P.funcs[64]? = some Tryz.f64 := by
  have h : Tryz.prog.funcs[64]? = some Tryz.f64 := by kernel_rfl
  exact h
theorem f111_at : gz.P.funcs[111]? = some Tryz.f111 := by
  have h : Tryz.prog.funcs[111]? = some Tryz.f111 := by kernel_rfl
  exact h
theorem f115_at : gz.P.funcs[115]? = some Tryz.f115 := by
  have h : Tryz.prog.funcs[115]? = some Tryz.f115 := by kernel_rfl
  exact h
theorem f60_at : gz.P.funcs[60]? = some Tryz.f60 := by
  have h : Tryz.prog.funcs[60]? = some Tryz.f60 := by kernel_rfl
  exact h
theorem f63_at : gz.P.funcs[63]? = some Tryz.f63 := by
  have h : Tryz.prog.funcs[63]? = some Tryz.f63 := by kernel_rfl
  exact h
theorem ok111 (xs : List Vot) (f : Nat) (caps : List AVal) (p : Vot → Bool) (hc : shdAs caps = true) (hg : caps.all (fun x => !isAggA x) = true) (hf : ∀ x ∈ xs, VCalls gz f (Vot.enc x :: caps) none (fun y _ => y = .lit (.bool (p x)))) :
    VCalls gz 111 [.lst false 4 (xs.map Vot.enc), .fn f caps] none (fun y _ => y = .lit (.int .i64 (idxOf p xs))) := by
  refine VCalls.go (nt := 19) (keep := [0, 1, 4, 5, 7, 8, 9, 16]) (muts := []) (mvs := []) [] f111_at rfl (by kernel_rfl) rfl (by kernel_rfl) rfl (fun i h => by cases h) rfl ?_
  intro hok
  simp only [go_sem] at hok
  simp only [Tryz.f111, Func.code, Option.getD_some]
  simp only [go_sem]
  simp only [go_sem, shds_kill _ hc, shds_copy _ _ _ hc]
  intro hl
  refine vm_loopK (α := Nat) (fun i => [(0, .lst false 4 (xs.map Vot.enc)), (1, .fn f caps), (4, .lit (.int .i64 0)), (7, .lit (.int .i64 xs.length)), (8, .lit (.int .i64 i))]) (fun i => i ≤ xs.length ∧ ∀ x ∈ xs.take i, p x = false) (fun i => xs.length - i) 0 ?_ ⟨by omega, by simp⟩ (by kernel_rfl) (fun _ => rfl) ?_
  · simp only [go_sem]
    trivial
  · intro i hi _
    simp only [go_sem]
    first | refine branch_ndec (fun h => ?_) (fun h => ?_) | refine branch_dec (fun h => ?_) (fun h => ?_) | refine branch_nbool (fun h => ?_) (fun h => ?_) | refine branch_split (fun h => ?_) (fun h => ?_)
    · have hlt : i < xs.length := by omega
      simp only [go_sem, shds_kill _ hc, shds_copy _ _ _ hc]
      refine ⟨by omega, by omega, hlt, hg, ?_⟩
      refine call_lend ?_
      simp only [go_sem, shds_snap _ hc]
      refine callN.eq (hf _ (getD_mem hlt)) (by simp only [go_sem]) ?_
      simp only [go_sem, shds_kill _ hc, shds_copy _ _ _ hc]
      have hget : xs.getD i default = xs[i] := by simp [List.getD, List.getElem?_eq_getElem hlt]
      rw [hget]
      refine branch_split (fun h2 => ?_) (fun h2 => ?_)
      · simp only [go_sem, shds_kill _ hc, shds_copy _ _ _ hc]
        exact (idxOf_hit hi.2 hlt h2).symm
      · simp only [go_sem, shds_kill _ hc, shds_copy _ _ _ hc]
        simp (disch := omega) only [wrap64, wrapU64, wrapU32, wrapU8]
        refine again_intro (i + 1) ⟨by omega, ?_⟩ (by omega) ?_
        · intro x hx
          rw [take_succ_getD hlt, List.mem_append, hget] at hx
          rcases hx with hx | hx
          · exact hi.2 x hx
          · simp only [List.mem_singleton] at hx
            rw [hx]
            exact h2
        · simp only [go_sem]
          omega
    · simp only [go_sem]
      have hie : i = xs.length := by omega
      refine (idxOf_none ?_).symm
      have := hi.2
      rwa [hie, List.take_length] at this
theorem ok115 (xs : List Nws) (f : Nat) (caps : List AVal) (p : Nws → Bool) (hc : shdAs caps = true) (hg : caps.all (fun x => !isAggA x) = true) (hf : ∀ x ∈ xs, VCalls gz f (Nws.enc x :: caps) none (fun y _ => y = .lit (.bool (p x)))) :
    VCalls gz 115 [.lst false 2 (xs.map Nws.enc), .fn f caps] none (fun y _ => y = .lit (.int .i64 (idxOf p xs))) := by
  refine VCalls.go (nt := 19) (keep := [0, 1, 4, 5, 7, 8, 9, 16]) (muts := []) (mvs := []) [] f115_at rfl (by kernel_rfl) rfl (by kernel_rfl) rfl (fun i h => by cases h) rfl ?_
  intro hok
  simp only [go_sem] at hok
  simp only [Tryz.f115, Func.code, Option.getD_some]
  simp only [go_sem]
  simp only [go_sem, shds_kill _ hc, shds_copy _ _ _ hc]
  intro hl
  refine vm_loopK (α := Nat) (fun i => [(0, .lst false 2 (xs.map Nws.enc)), (1, .fn f caps), (4, .lit (.int .i64 0)), (7, .lit (.int .i64 xs.length)), (8, .lit (.int .i64 i))]) (fun i => i ≤ xs.length ∧ ∀ x ∈ xs.take i, p x = false) (fun i => xs.length - i) 0 ?_ ⟨by omega, by simp⟩ (by kernel_rfl) (fun _ => rfl) ?_
  · simp only [go_sem]
    trivial
  · intro i hi _
    simp only [go_sem]
    first | refine branch_ndec (fun h => ?_) (fun h => ?_) | refine branch_dec (fun h => ?_) (fun h => ?_) | refine branch_nbool (fun h => ?_) (fun h => ?_) | refine branch_split (fun h => ?_) (fun h => ?_)
    · have hlt : i < xs.length := by omega
      simp only [go_sem, shds_kill _ hc, shds_copy _ _ _ hc]
      refine ⟨by omega, by omega, hlt, hg, ?_⟩
      refine call_lend ?_
      simp only [go_sem, shds_snap _ hc]
      refine callN.eq (hf _ (getD_mem hlt)) (by simp only [go_sem]) ?_
      simp only [go_sem, shds_kill _ hc, shds_copy _ _ _ hc]
      have hget : xs.getD i default = xs[i] := by simp [List.getD, List.getElem?_eq_getElem hlt]
      rw [hget]
      refine branch_split (fun h2 => ?_) (fun h2 => ?_)
      · simp only [go_sem, shds_kill _ hc, shds_copy _ _ _ hc]
        exact (idxOf_hit hi.2 hlt h2).symm
      · simp only [go_sem, shds_kill _ hc, shds_copy _ _ _ hc]
        simp (disch := omega) only [wrap64, wrapU64, wrapU32, wrapU8]
        refine again_intro (i + 1) ⟨by omega, ?_⟩ (by omega) ?_
        · intro x hx
          rw [take_succ_getD hlt, List.mem_append, hget] at hx
          rcases hx with hx | hx
          · exact hi.2 x hx
          · simp only [List.mem_singleton] at hx
            rw [hx]
            exact h2
        · simp only [go_sem]
          omega
    · simp only [go_sem]
      have hie : i = xs.length := by omega
      refine (idxOf_none ?_).symm
      have := hi.2
      rwa [hie, List.take_length] at this
theorem ok60 (xs : List Vot) (f : Nat) (caps : List AVal) (p : Vot → Bool) (hc : shdAs caps = true) (hg : caps.all (fun x => !isAggA x) = true) (hf : ∀ x ∈ xs, VCalls gz f (Vot.enc x :: caps) none (fun y _ => y = .lit (.bool (p x)))) :
    VCalls gz 60 [.lst false 4 (xs.map Vot.enc), .fn f caps] none (fun y _ => y = .lit (.bool (xs.any p))) := by
  refine VCalls.go (nt := 9) (keep := [0, 1, 4]) (muts := []) (mvs := []) [] f60_at rfl (by kernel_rfl) rfl (by kernel_rfl) rfl (fun i h => by cases h) rfl ?_
  intro hok
  simp only [go_sem] at hok
  simp only [Tryz.f60, Func.code, Option.getD_some]
  simp only [go_sem]
  simp only [go_sem, shds_kill _ hc, shds_copy _ _ _ hc]
  refine call_lend ?_
  simp only [go_sem, shds_snap _ hc]
  refine callN.eq (ok111 xs f caps p hc hg hf) (by simp only [go_sem]) ?_
  simp only [go_sem, shds_kill _ hc, shds_copy _ _ _ hc]
  simp only [idxOf_nonneg, Bool.decide_eq_true]
theorem ok63 (xs : List Nws) (f : Nat) (caps : List AVal) (p : Nws → Bool) (hc : shdAs caps = true) (hg : caps.all (fun x => !isAggA x) = true) (hf : ∀ x ∈ xs, VCalls gz f (Nws.enc x :: caps) none (fun y _ => y = .lit (.bool (p x)))) :
    VCalls gz 63 [.lst false 2 (xs.map Nws.enc), .fn f caps] none (fun y _ => y = .lit (.bool (xs.any p))) := by
  refine VCalls.go (nt := 9) (keep := [0, 1, 4]) (muts := []) (mvs := []) [] f63_at rfl (by kernel_rfl) rfl (by kernel_rfl) rfl (fun i h => by cases h) rfl ?_
  intro hok
  simp only [go_sem] at hok
  simp only [Tryz.f63, Func.code, Option.getD_some]
  simp only [go_sem]
  simp only [go_sem, shds_kill _ hc, shds_copy _ _ _ hc]
  refine call_lend ?_
  simp only [go_sem, shds_snap _ hc]
  refine callN.eq (ok115 xs f caps p hc hg hf) (by simp only [go_sem]) ?_
  simp only [go_sem, shds_kill _ hc, shds_copy _ _ _ hc]
  simp only [idxOf_nonneg, Bool.decide_eq_true]
theorem ok61 (v : Vot) (r : Rpl) : VCalls gz 61 [v.enc, .ptr false (r.enc false)] none (fun y _ => y = .lit (.bool (!v.ok r.n))) := by
  refine VCalls.go (nt := 9) (keep := [0, 1, 2, 3]) (muts := []) (mvs := []) [] f61_at rfl (by kernel_rfl) rfl (by kernel_rfl) rfl (fun i h => by cases h) rfl ?_
  intro hok
  simp only [go_sem] at hok
  simp only [Tryz.f61, Func.code, Option.getD_some]
  simp only [go_sem]
  refine call_lend ?_
  simp only [go_sem]
  refine callN.eq (ok62 v r.n) (by simp only [go_sem]) ?_
  simp only [go_sem]
theorem ok64 (x : Nws) (r : Rpl) (hs : srv r.n = true) : VCalls gz 64 [x.enc, .ptr false (r.enc false)] none (fun y _ => y = .lit (.bool (!nwOk r.n x))) := by
  refine VCalls.go (nt := 17) (keep := [0, 1, 2, 3]) (muts := []) (mvs := []) [] f64_at rfl (by kernel_rfl) rfl (by kernel_rfl) rfl (fun i h => by cases h) rfl ?_
  intro hok
  simp only [go_sem] at hok
  simp only [Tryz.f64, Func.code, Option.getD_some]
  simp only [go_sem]
  have hn := srv_iff.1 hs
  have hw : IntKind.i64.wrap (r.n - 1) = r.n - 1 := wrap64 (by omega) (by omega)
  simp only [go_sem, hw]
  refine call_lend ?_
  simp only [go_sem]
  refine callN.eq (ok52 x.src 0 (r.n - 1)) (by simp only [go_sem]) ?_
  simp only [go_sem]
  by_cases h1 : 0 ≤ x.src ∧ x.src ≤ r.n - 1
  rotate_left
  · simp only [go_sem, eq_false h1]
    rw [nwOk, decide_eq_false h1]
    rfl
  simp only [go_sem, eq_true h1]
  refine call_lend ?_
  simp only [go_sem]
  refine callN.eq (ok53 x.view) (by simp only [go_sem]) ?_
  simp only [go_sem]
  rw [nwOk, decide_eq_true h1, Bool.true_and, decide_not]
end Go.VS
