/- VS: functions by the machine. -/
import Derived.Test.YtdbfhpndlocilaaGreatDoorVp
import Derived.Test.YtdbfhpndlocilaaGreatDoorVl
import Derived.Test.YtdbfhpndlocilaaGreatDoorVj
set_option linter.unusedSimpArgs false
set_option linter.unusedVariables false
open Go.Proofs
set_option maxRecDepth 20000
namespace Go.VS
theorem f58_at : gz.P.funcs[58]? = some Tryz.f58 := by
  have h : Tryz.prog.funcs[58]? = some Tryz.f58 := by kernel_rfl
  exact h
def nwOk (n : Int) (x : Nws) : Bool := decide (0 ≤ x.src ∧ x.src ≤ n - 1) && decide (1 ≤ x.view ∧ x.view ≤ 100000)
def Rpl.hd (r : Rpl) : Bool := srv r.n && (decide (0 ≤ r.id ∧ r.id ≤ r.n - 1) && (decide (1 ≤ r.view ∧ r.view ≤ 100000) && (decide (0 ≤ r.voted ∧ r.voted ≤ 100000) && (decide (0 ≤ r.locked ∧ r.locked ≤ 100000) && decide (0 ≤ r.proposed ∧ r.proposed ≤ 100000)))))
def Rpl.hd2 (r : Rpl) : Bool := r.high.ok r.n && (decide (r.blocks.length ≤ 60) && (decide (r.votes.length ≤ 60) && decide (r.news.length ≤ 30)))
def Rpl.bk (r : Rpl) (i : Nat) : Bool := (r.blocks.getD i default).ok r.n && (knwB (r.blocks.take i) (r.blocks.getD i default).proof && (List.range i).all fun k => !decide ((r.blocks.getD k default).nm = (r.blocks.getD i default).nm))
def Rpl.ok (r : Rpl) : Bool := r.hd && (r.hd2 && ((List.range r.blocks.length).all r.bk && (r.votes.all (fun v => v.ok r.n) && (r.news.all (nwOk r.n) && (knwB r.blocks r.high && dnB r.blocks r.done)))))
theorem Rpl.ok_hd {r : Rpl} (h : r.hd = false) : r.ok = false := by simp only [Rpl.ok, h, Bool.false_and]
theorem Rpl.ok_hd2 {r : Rpl} (h : r.hd2 = false) : r.ok = false := by simp only [Rpl.ok, h, Bool.false_and, Bool.and_false]
theorem Rpl.ok_bk {r : Rpl} {i : Nat} (hi : i < r.blocks.length) (h : r.bk i = false) : r.ok = false := by
  have : (List.range r.blocks.length).all r.bk = false := List.all_eq_false.2 ⟨i, List.mem_range.2 hi, by simp [h]⟩
  simp only [Rpl.ok, this, Bool.false_and, Bool.and_false]
theorem Rpl.ok_vt {r : Rpl} {i : Nat} (hi : i < r.votes.length) (h : (r.votes.getD i default).ok r.n = false) : r.ok = false := by
  have : r.votes.all (fun v => v.ok r.n) = false := List.all_eq_false.2 ⟨_, getD_mem hi, by rw [h]; decide⟩
  simp only [Rpl.ok, this, Bool.false_and, Bool.and_false]
theorem Rpl.ok_nw {r : Rpl} {i : Nat} (hi : i < r.news.length) (h : nwOk r.n (r.news.getD i default) = false) : r.ok = false := by
  have : r.news.all (nwOk r.n) = false := List.all_eq_false.2 ⟨_, getD_mem hi, by rw [h]; decide⟩
  simp only [Rpl.ok, this, Bool.false_and, Bool.and_false]
set_option maxHeartbeats 4000000 in
theorem ok58 (r : Rpl) : VCalls gz 58 [r.enc false] none (fun y _ => y = .lit (.bool r.ok)) := by
  refine VCalls.go (nt := 166) (keep := [0, 1, 2, 3, 4, 5, 6, 7, 44, 68, 73, 95, 98, 109, 114, 125, 130, 153]) (muts := []) (mvs := []) [(9, .tree true (.take 0 (.take 1 (.take 2 (.all (.cons 3 (.take 4 (.take 5 (.take 6 (.take 7 (.take 8 (.take 10 (.take 11 (.all (.cons 9 (.all (.cons 12 (.take 13 (.take 14 .done)) .nil)) .nil))))))))) .nil)))))), (14, .tree true (.take 0 (.take 1 (.take 2 (.take 3 (.take 4 (.take 6 (.all (.cons 5 (.all (.cons 7 (.take 8 .done) .nil)) .nil))))))))), (19, .tree true (.take 0 (.take 1 (.take 2 (.take 3 (.take 4 (.take 5 (.take 6 (.all (.cons 7 (.take 8 .done) .nil)))))))))), (24, .tree true (.take 0 (.take 1 (.take 2 (.take 3 (.take 4 (.take 5 (.take 6 (.take 7 (.take 8 (.all (.cons 9 (.take 10 (.take 11 (.take 12 (.take 13 (.take 14 (.take 15 (.take 16 (.take 17 (.all (.cons 18 (.take 19 (.take 20 .done)) .nil)))))))))) .nil))))))))))))] f58_at rfl (by kernel_rfl) rfl (by kernel_rfl) rfl (fun i h => by cases h) rfl ?_
  intro hok
  simp only [go_sem] at hok
  simp only [Tryz.f58, Func.code, Option.getD_some]
  simp only [go_sem]
  refine call_lend ?_
  simp only [go_sem]
  refine callN.eq (ok88 r.n) (by simp only [go_sem]) ?_
  simp only [go_sem]
  cases h : srv r.n
  · simp only [go_sem, Rpl.ok_hd (r := r) (by simp only [Rpl.hd, h, Bool.false_and])]
  have hn := srv_iff.1 h
  have hw : IntKind.i64.wrap (r.n - 1) = r.n - 1 := wrap64 (by omega) (by omega)
  simp only [go_sem, hw]
  refine call_lend ?_
  simp only [go_sem]
  refine callN.eq (ok37 r.id 0 (r.n - 1)) (by simp only [go_sem]) ?_
  simp only [go_sem]
  by_cases h2 : 0 ≤ r.id ∧ r.id ≤ r.n - 1
  rotate_left
  · simp only [go_sem, eq_false h2, Rpl.ok_hd (r := r) (by simp only [Rpl.hd, eq_false h2, decide_false, Bool.false_and, Bool.and_false])]
  simp only [go_sem, eq_true h2]
  refine call_lend ?_
  simp only [go_sem]
  refine callN.eq (ok37 r.view 1 100000) (by simp only [go_sem]) ?_
  simp only [go_sem]
  by_cases h3 : 1 ≤ r.view ∧ r.view ≤ 100000
  rotate_left
  · simp only [go_sem, eq_false h3, Rpl.ok_hd (r := r) (by simp only [Rpl.hd, eq_false h3, decide_false, Bool.false_and, Bool.and_false])]
  simp only [go_sem, eq_true h3]
  refine call_lend ?_
  simp only [go_sem]
  refine callN.eq (ok89 r.voted) (by simp only [go_sem]) ?_
  simp only [go_sem]
  by_cases h4 : 0 ≤ r.voted ∧ r.voted ≤ 100000
  rotate_left
  · simp only [go_sem, eq_false h4, Rpl.ok_hd (r := r) (by simp only [Rpl.hd, eq_false h4, decide_false, Bool.false_and, Bool.and_false])]
  simp only [go_sem, eq_true h4]
  refine call_lend ?_
  simp only [go_sem]
  refine callN.eq (ok89 r.locked) (by simp only [go_sem]) ?_
  simp only [go_sem]
  by_cases h5 : 0 ≤ r.locked ∧ r.locked ≤ 100000
  rotate_left
  · simp only [go_sem, eq_false h5, Rpl.ok_hd (r := r) (by simp only [Rpl.hd, eq_false h5, decide_false, Bool.false_and, Bool.and_false])]
  simp only [go_sem, eq_true h5]
  refine call_lend ?_
  simp only [go_sem]
  refine callN.eq (ok89 r.proposed) (by simp only [go_sem]) ?_
  simp only [go_sem]
  by_cases h6 : 0 ≤ r.proposed ∧ r.proposed ≤ 100000
  rotate_left
  · simp only [go_sem, eq_false h6, Rpl.ok_hd (r := r) (by simp only [Rpl.hd, eq_false h6, decide_false, Bool.false_and, Bool.and_false])]
  simp only [go_sem, eq_true h6]
  refine call_lend ?_
  simp only [go_sem]
  refine callN.eq (ok90 r.high r.n) (by simp only [go_sem]) ?_
  simp only [go_sem]
  cases h7 : r.high.ok r.n
  · simp only [go_sem, Rpl.ok_hd2 (r := r) (by simp only [Rpl.hd2, h7, Bool.false_and])]
  simp only [go_sem]
  intro hm1
  by_cases h8 : 60 < (r.blocks.length : Int)
  · simp only [go_sem, eq_true h8, Rpl.ok_hd2 (r := r) (by simp only [Rpl.hd2, decide_eq_false (show ¬ r.blocks.length ≤ 60 by omega), Bool.false_and, Bool.and_false])]
  simp only [go_sem, h8]
  intro hm2
  by_cases h9 : 60 < (r.votes.length : Int)
  · simp only [go_sem, eq_true h9, Rpl.ok_hd2 (r := r) (by simp only [Rpl.hd2, decide_eq_false (show ¬ r.votes.length ≤ 60 by omega), Bool.false_and, Bool.and_false])]
  simp only [go_sem, h9]
  intro hm3
  by_cases h10 : 30 < (r.news.length : Int)
  · simp only [go_sem, eq_true h10, Rpl.ok_hd2 (r := r) (by simp only [Rpl.hd2, decide_eq_false (show ¬ r.news.length ≤ 30 by omega), Bool.false_and, Bool.and_false])]
  simp only [go_sem, h10]
  have hhd : r.hd = true := by simp only [Rpl.hd, h, decide_eq_true h2, decide_eq_true h3, decide_eq_true h4, decide_eq_true h5, decide_eq_true h6, Bool.and_self]
  have hhd2 : r.hd2 = true := by simp only [Rpl.hd2, h7, decide_eq_true (show r.blocks.length ≤ 60 by omega), decide_eq_true (show r.votes.length ≤ 60 by omega), decide_eq_true (show r.news.length ≤ 30 by omega), Bool.and_self]
  refine vm_loopK (α := Nat) (fun i => [(1, .ptr true (r.enc false)), (2, .lit (.bool false)), (3, .lit (.int .i64 i))]) (fun i => i ≤ r.blocks.length ∧ ∀ j, j < i → r.bk j = true) (fun i => r.blocks.length - i) 0 ?_ ⟨by omega, fun j hj => by omega⟩ (by kernel_rfl) (fun _ => rfl) ?_
  · simp only [go_sem]
    try rfl
  · rintro i ⟨hi, he⟩ hk
    simp only [go_sem]
    intro _
    first | refine branch_ndec (fun h11 => ?_) (fun h11 => ?_) | refine branch_dec (fun h11 => ?_) (fun h11 => ?_) | refine branch_nbool (fun h11 => ?_) (fun h11 => ?_) | refine branch_split (fun h11 => ?_) (fun h11 => ?_)
    · have hlt : i < r.blocks.length := by omega
      have h0 : (0 : Int) ≤ (i : Int) := by omega
      have hw3 : IntKind.i64.wrap ((i : Int) + 1) = ((i + 1 : Nat) : Int) := by rw [wrap64 (by omega) (by omega)]; omega
      simp only [go_sem, h0, hlt, h11]
      refine call_lend ?_
      simp only [go_sem]
      refine callN.eq (ok91 (r.blocks.getD i default) r.n) (by simp only [go_sem]) ?_
      simp only [go_sem]
      cases hb : (r.blocks.getD i default).ok r.n
      · have : r.bk i = false := by simp only [Rpl.bk, hb, Bool.false_and]
        simp only [go_sem, Rpl.ok_bk hlt this]
      have h12 : (i : Int) ≤ (r.blocks.length : Int) := by omega
      have h13 : i ≤ r.blocks.length := hi
      simp only [go_sem, h0, h11, h12, h13, hlt, Nat.sub_zero]
      refine call_lend ?_
      simp only [go_sem]
      refine callN.eq (ok92 (r.blocks.take i) (r.blocks.getD i default).proof) (by simp only [go_sem]) ?_
      simp only [go_sem]
      cases hkn : knwB (r.blocks.take i) (r.blocks.getD i default).proof
      · have : r.bk i = false := by simp only [Rpl.bk, hkn, Bool.false_and, Bool.and_false]
        simp only [go_sem, Rpl.ok_bk hlt this]
      simp only [go_sem]
      refine vm_loopK (α := Nat) (fun k => [(1, .ptr true (r.enc false)), (2, .lit (.bool false)), (3, .lit (.int .i64 i)), (4, .ptr true ((r.blocks.getD i default).enc false)), (5, .lit (.int .i64 k))]) (fun k => k ≤ i ∧ ∀ j, j < k → ¬ (r.blocks.getD j default).nm = (r.blocks.getD i default).nm) (fun k => i - k) 0 ?_ ⟨by omega, fun j hj => by omega⟩ (by kernel_rfl) (fun _ => rfl) ?_
      · simp only [go_sem]
        try rfl
      · rintro k ⟨hk2, he2⟩ hkk
        simp only [go_sem]
        first | refine branch_ndec (fun h14 => ?_) (fun h14 => ?_) | refine branch_dec (fun h14 => ?_) (fun h14 => ?_) | refine branch_nbool (fun h14 => ?_) (fun h14 => ?_) | refine branch_split (fun h14 => ?_) (fun h14 => ?_)
        · have hlt2 : k < r.blocks.length := by omega
          have h02 : (0 : Int) ≤ (k : Int) := by omega
          have h15 : (k : Int) < (r.blocks.length : Int) := by omega
          have hw4 : IntKind.i64.wrap ((k : Int) + 1) = ((k + 1 : Nat) : Int) := by rw [wrap64 (by omega) (by omega)]; omega
          simp only [go_sem, h02, hlt2, h15]
          refine call_lend ?_
          simp only [go_sem]
          refine callN.eq (ok93 (r.blocks.getD k default)) (by simp only [go_sem]) ?_
          simp only [go_sem]
          refine call_lend ?_
          simp only [go_sem]
          refine callN.eq (ok93 (r.blocks.getD i default)) (by simp only [go_sem]) ?_
          simp only [go_sem]
          first | refine branch_ndec (fun h16 => ?_) (fun h16 => ?_) | refine branch_dec (fun h16 => ?_) (fun h16 => ?_) | refine branch_nbool (fun h16 => ?_) (fun h16 => ?_) | refine branch_split (fun h16 => ?_) (fun h16 => ?_)
          · have : r.bk i = false := by
              have : ((List.range i).all fun k => !decide ((r.blocks.getD k default).nm = (r.blocks.getD i default).nm)) = false := List.all_eq_false.2 ⟨k, List.mem_range.2 (by omega), by rw [decide_eq_true h16]; decide⟩
              simp only [Rpl.bk, this, Bool.and_false]
            simp only [go_sem, Rpl.ok_bk hlt this]
          · simp only [go_sem, hw4]
            refine again_intro (k + 1) ⟨by omega, nx he2 h16⟩ (by omega) ?_
            simp only [go_sem]
            try rfl
        · have hbi : r.bk i = true := by
            have : ((List.range i).all fun k => !decide ((r.blocks.getD k default).nm = (r.blocks.getD i default).nm)) = true := List.all_eq_true.2 fun x hx => by
              rw [decide_eq_false (he2 x (by have := List.mem_range.1 hx; omega))]
              rfl
            simp only [Rpl.bk, hb, hkn, this, Bool.and_self]
          simp only [go_sem, hw3]
          refine again_intro (i + 1) ⟨by omega, nx he hbi⟩ (by omega) ?_
          simp only [go_sem]
          try rfl
    · have hbk : (List.range r.blocks.length).all r.bk = true := List.all_eq_true.2 fun x hx => he x (by have := List.mem_range.1 hx; omega)
      simp only [go_sem]
      refine vm_loopK (α := Nat) (fun i => [(1, .ptr true (r.enc false)), (2, .lit (.bool false)), (6, .lit (.int .i64 i))]) (fun i => i ≤ r.votes.length ∧ ∀ j, j < i → (r.votes.getD j default).ok r.n = true) (fun i => r.votes.length - i) 0 ?_ ⟨by omega, fun j hj => by omega⟩ (by kernel_rfl) (fun _ => rfl) ?_
      · simp only [go_sem]
        try rfl
      · rintro k ⟨hk2, he2⟩ hkk
        simp only [go_sem]
        intro _
        first | refine branch_ndec (fun h14 => ?_) (fun h14 => ?_) | refine branch_dec (fun h14 => ?_) (fun h14 => ?_) | refine branch_nbool (fun h14 => ?_) (fun h14 => ?_) | refine branch_split (fun h14 => ?_) (fun h14 => ?_)
        · have hlt2 : k < r.votes.length := by omega
          have h02 : (0 : Int) ≤ (k : Int) := by omega
          have hw4 : IntKind.i64.wrap ((k : Int) + 1) = ((k + 1 : Nat) : Int) := by rw [wrap64 (by omega) (by omega)]; omega
          simp only [go_sem, h02, hlt2, h14]
          refine call_lend ?_
          simp only [go_sem]
          refine callN.eq (ok94 (r.votes.getD k default) r.n) (by simp only [go_sem]) ?_
          simp only [go_sem]
          cases hv : (r.votes.getD k default).ok r.n
          · simp only [go_sem, Rpl.ok_vt hlt2 hv]
          · simp only [go_sem, hw4]
            refine again_intro (k + 1) ⟨by omega, nx he2 hv⟩ (by omega) ?_
            simp only [go_sem]
            try rfl
        · have hvt : r.votes.all (fun v => v.ok r.n) = true := List.all_eq_true.2 fun x hx => by
            obtain ⟨j, hj, rfl⟩ := List.mem_iff_getElem.1 hx
            rw [getElem_D hj]
            exact he2 j (by omega)
          simp only [go_sem]
          refine vm_loopK (α := Nat) (fun i => [(1, .ptr true (r.enc false)), (2, .lit (.bool false)), (7, .lit (.int .i64 i))]) (fun i => i ≤ r.news.length ∧ ∀ j, j < i → nwOk r.n (r.news.getD j default) = true) (fun i => r.news.length - i) 0 ?_ ⟨by omega, fun j hj => by omega⟩ (by kernel_rfl) (fun _ => rfl) ?_
          · simp only [go_sem]
            try rfl
          · rintro m ⟨hm4, he3⟩ hkm
            simp only [go_sem]
            intro _
            first | refine branch_ndec (fun h15 => ?_) (fun h15 => ?_) | refine branch_dec (fun h15 => ?_) (fun h15 => ?_) | refine branch_nbool (fun h15 => ?_) (fun h15 => ?_) | refine branch_split (fun h15 => ?_) (fun h15 => ?_)
            · have hlt3 : m < r.news.length := by omega
              have h03 : (0 : Int) ≤ (m : Int) := by omega
              have hw5 : IntKind.i64.wrap ((m : Int) + 1) = ((m + 1 : Nat) : Int) := by rw [wrap64 (by omega) (by omega)]; omega
              simp only [go_sem, h03, hlt3, h15, hw]
              refine call_lend ?_
              simp only [go_sem]
              refine callN.eq (ok37 (r.news.getD m default).src 0 (r.n - 1)) (by simp only [go_sem]) ?_
              simp only [go_sem]
              by_cases h16 : 0 ≤ (r.news.getD m default).src ∧ (r.news.getD m default).src ≤ r.n - 1
              rotate_left
              · simp only [go_sem, eq_false h16, Rpl.ok_nw hlt3 (by simp only [nwOk, eq_false h16, decide_false, Bool.false_and])]
              simp only [go_sem, eq_true h16, h03, hlt3, h15]
              refine call_lend ?_
              simp only [go_sem]
              refine callN.eq (ok37 (r.news.getD m default).view 1 100000) (by simp only [go_sem]) ?_
              simp only [go_sem]
              by_cases h17 : 1 ≤ (r.news.getD m default).view ∧ (r.news.getD m default).view ≤ 100000
              rotate_left
              · simp only [go_sem, eq_false h17, Rpl.ok_nw hlt3 (by simp only [nwOk, eq_false h17, decide_false, Bool.and_false])]
              simp only [go_sem, eq_true h17, hw5]
              refine again_intro (m + 1) ⟨by omega, nx he3 (by simp only [nwOk, decide_eq_true h16, decide_eq_true h17, Bool.and_self])⟩ (by omega) ?_
              simp only [go_sem]
              try rfl
            · have hnw : r.news.all (nwOk r.n) = true := List.all_eq_true.2 fun x hx => by
                obtain ⟨j, hj, rfl⟩ := List.mem_iff_getElem.1 hx
                rw [getElem_D hj]
                exact he3 j (by omega)
              have hfin : r.ok = (knwB r.blocks r.high && dnB r.blocks r.done) := by simp only [Rpl.ok, hhd, hhd2, hbk, hvt, hnw, Bool.true_and]
              simp only [go_sem]
              refine call_lend ?_
              simp only [go_sem]
              refine callN.eq (ok92 r.blocks r.high) (by simp only [go_sem]) ?_
              simp only [go_sem]
              cases hkb : knwB r.blocks r.high
              · simp only [go_sem, hfin, hkb, Bool.false_and]
              · simp only [go_sem]
                refine call_lend ?_
                simp only [go_sem]
                refine callN.eq (ok95 r.blocks r.done) (by simp only [go_sem]) ?_
                simp only [go_sem]
                rw [hfin, hkb, Bool.true_and]
end Go.VS
set_option linter.unusedSimpArgs false
set_option linter.unusedVariables false
open Go.Proofs
set_option maxRecDepth 20000
namespace Go.VS
theorem f108_at : gz.P.funcs[108]? = some Tryz.f108 := by
  have h : Tryz.prog.funcs[108]? = some Tryz.f108 := by kernel_rfl
  exact h
theorem f111_at : gz.P.funcs[111]? = some Tryz.f111 := by
  have h : Tryz.prog.funcs[111]? = some Tryz.f111 := by kernel_rfl
  exact h
theorem f141_at : gz.P.funcs[141]? = some Tryz.f141 := by
  have h : Tryz.prog.funcs[141]? = some Tryz.f141 := by kernel_rfl
  exact h
theorem f145_at : gz.P.funcs[145]? = some Tryz.f145 := by
  have h : Tryz.prog.funcs[145]? = some Tryz.f145 := by kernel_rfl
  exact h
theorem f107_at : gz.P.funcs[107]? = some Tryz.f107 := by
  have h : Tryz.prog.funcs[107]? = some Tryz.f107 := by kernel_rfl
  exact h
theorem f110_at : gz.P.funcs[110]? = some Tryz.f110 := by
  have h : Tryz.prog.funcs[110]? = some Tryz.f110 := by kernel_rfl
  exact h
theorem ok141 (xs : List Vot) (f : Nat) (caps : List AVal) (p : Vot → Bool) (hc : shdAs caps = true) (hg : caps.all (fun x => !isAggA x) = true) (hf : ∀ x ∈ xs, VCalls gz f (Vot.enc x :: caps) none (fun y _ => y = .lit (.bool (p x)))) :
    VCalls gz 141 [.lst false 4 (xs.map Vot.enc), .fn f caps] none (fun y _ => y = .lit (.int .i64 (idxOf p xs))) := by
  refine VCalls.go (nt := 19) (keep := [0, 1, 4, 5, 7, 8, 9, 16]) (muts := []) (mvs := []) [] f141_at rfl (by kernel_rfl) rfl (by kernel_rfl) rfl (fun i h => by cases h) rfl ?_
  intro hok
  simp only [go_sem] at hok
  simp only [Tryz.f141, Func.code, Option.getD_some]
  simp only [go_sem]
  simp only [go_sem, shds_kill _ hc, shds_copy _ _ _ hc]
  intro hl
  refine vm_loopK (α := Nat) (fun i => [(0, .lst false 4 (xs.map Vot.enc)), (1, .fn f caps), (4, .lit (.int .i64 0)), (7, .lit (.int .i64 xs.length)), (8, .lit (.int .i64 i))]) (fun i => i ≤ xs.length ∧ ∀ x ∈ xs.take i, p x = false) (fun i => xs.length - i) 0 ?_ ⟨by omega, by simp⟩ (by kernel_rfl) (fun _ => rfl) ?_
  · simp only [go_sem]
    trivial
  · intro i hi _
    simp only [go_sem]
    first | refine branch_ndec (fun h => ?_) (fun h => ?_) | refine branch_dec (fun h => ?_) (fun h => ?_) | refine branch_nbool (fun h => ?_) (fun h => ?_) | refine branch_split (fun h => ?_) (fun h => ?_)
    · have hlt : i < xs.length := by omega
      simp only [go_sem, shds_kill _ hc, shds_copy _ _ _ hc]
      refine ⟨by omega, by omega, hlt, hg, ?_⟩
      refine call_lend ?_
      simp only [go_sem, shds_snap _ hc]
      refine callN.eq (hf _ (getD_mem hlt)) (by simp only [go_sem]) ?_
      simp only [go_sem, shds_kill _ hc, shds_copy _ _ _ hc]
      have hget : xs.getD i default = xs[i] := by simp [List.getD, List.getElem?_eq_getElem hlt]
      rw [hget]
      refine branch_split (fun h2 => ?_) (fun h2 => ?_)
      · simp only [go_sem, shds_kill _ hc, shds_copy _ _ _ hc]
        exact (idxOf_hit hi.2 hlt h2).symm
      · simp only [go_sem, shds_kill _ hc, shds_copy _ _ _ hc]
        simp (disch := omega) only [wrap64, wrapU64, wrapU32, wrapU8]
        refine again_intro (i + 1) ⟨by omega, ?_⟩ (by omega) ?_
        · intro x hx
          rw [take_succ_getD hlt, List.mem_append, hget] at hx
          rcases hx with hx | hx
          · exact hi.2 x hx
          · simp only [List.mem_singleton] at hx
            rw [hx]
            exact h2
        · simp only [go_sem]
          omega
    · simp only [go_sem]
      have hie : i = xs.length := by omega
      refine (idxOf_none ?_).symm
      have := hi.2
      rwa [hie, List.take_length] at this
theorem ok145 (xs : List Nws) (f : Nat) (caps : List AVal) (p : Nws → Bool) (hc : shdAs caps = true) (hg : caps.all (fun x => !isAggA x) = true) (hf : ∀ x ∈ xs, VCalls gz f (Nws.enc x :: caps) none (fun y _ => y = .lit (.bool (p x)))) :
    VCalls gz 145 [.lst false 2 (xs.map Nws.enc), .fn f caps] none (fun y _ => y = .lit (.int .i64 (idxOf p xs))) := by
  refine VCalls.go (nt := 19) (keep := [0, 1, 4, 5, 7, 8, 9, 16]) (muts := []) (mvs := []) [] f145_at rfl (by kernel_rfl) rfl (by kernel_rfl) rfl (fun i h => by cases h) rfl ?_
  intro hok
  simp only [go_sem] at hok
  simp only [Tryz.f145, Func.code, Option.getD_some]
  simp only [go_sem]
  simp only [go_sem, shds_kill _ hc, shds_copy _ _ _ hc]
  intro hl
  refine vm_loopK (α := Nat) (fun i => [(0, .lst false 2 (xs.map Nws.enc)), (1, .fn f caps), (4, .lit (.int .i64 0)), (7, .lit (.int .i64 xs.length)), (8, .lit (.int .i64 i))]) (fun i => i ≤ xs.length ∧ ∀ x ∈ xs.take i, p x = false) (fun i => xs.length - i) 0 ?_ ⟨by omega, by simp⟩ (by kernel_rfl) (fun _ => rfl) ?_
  · simp only [go_sem]
    trivial
  · intro i hi _
    simp only [go_sem]
    first | refine branch_ndec (fun h => ?_) (fun h => ?_) | refine branch_dec (fun h => ?_) (fun h => ?_) | refine branch_nbool (fun h => ?_) (fun h => ?_) | refine branch_split (fun h => ?_) (fun h => ?_)
    · have hlt : i < xs.length := by omega
      simp only [go_sem, shds_kill _ hc, shds_copy _ _ _ hc]
      refine ⟨by omega, by omega, hlt, hg, ?_⟩
      refine call_lend ?_
      simp only [go_sem, shds_snap _ hc]
      refine callN.eq (hf _ (getD_mem hlt)) (by simp only [go_sem]) ?_
      simp only [go_sem, shds_kill _ hc, shds_copy _ _ _ hc]
      have hget : xs.getD i default = xs[i] := by simp [List.getD, List.getElem?_eq_getElem hlt]
      rw [hget]
      refine branch_split (fun h2 => ?_) (fun h2 => ?_)
      · simp only [go_sem, shds_kill _ hc, shds_copy _ _ _ hc]
        exact (idxOf_hit hi.2 hlt h2).symm
      · simp only [go_sem, shds_kill _ hc, shds_copy _ _ _ hc]
        simp (disch := omega) only [wrap64, wrapU64, wrapU32, wrapU8]
        refine again_intro (i + 1) ⟨by omega, ?_⟩ (by omega) ?_
        · intro x hx
          rw [take_succ_getD hlt, List.mem_append, hget] at hx
          rcases hx with hx | hx
          · exact hi.2 x hx
          · simp only [List.mem_singleton] at hx
            rw [hx]
            exact h2
        · simp only [go_sem]
          omega
    · simp only [go_sem]
      have hie : i = xs.length := by omega
      refine (idxOf_none ?_).symm
      have := hi.2
      rwa [hie, List.take_length] at this
theorem ok107 (xs : List Vot) (f : Nat) (caps : List AVal) (p : Vot → Bool) (hc : shdAs caps = true) (hg : caps.all (fun x => !isAggA x) = true) (hf : ∀ x ∈ xs, VCalls gz f (Vot.enc x :: caps) none (fun y _ => y = .lit (.bool (p x)))) :
    VCalls gz 107 [.lst false 4 (xs.map Vot.enc), .fn f caps] none (fun y _ => y = .lit (.bool (xs.any p))) := by
  refine VCalls.go (nt := 9) (keep := [0, 1, 4]) (muts := []) (mvs := []) [] f107_at rfl (by kernel_rfl) rfl (by kernel_rfl) rfl (fun i h => by cases h) rfl ?_
  intro hok
  simp only [go_sem] at hok
  simp only [Tryz.f107, Func.code, Option.getD_some]
  simp only [go_sem]
  simp only [go_sem, shds_kill _ hc, shds_copy _ _ _ hc]
  refine call_lend ?_
  simp only [go_sem, shds_snap _ hc]
  refine callN.eq (ok141 xs f caps p hc hg hf) (by simp only [go_sem]) ?_
  simp only [go_sem, shds_kill _ hc, shds_copy _ _ _ hc]
  simp only [idxOf_nonneg, Bool.decide_eq_true]
theorem ok110 (xs : List Nws) (f : Nat) (caps : List AVal) (p : Nws → Bool) (hc : shdAs caps = true) (hg : caps.all (fun x => !isAggA x) = true) (hf : ∀ x ∈ xs, VCalls gz f (Nws.enc x :: caps) none (fun y _ => y = .lit (.bool (p x)))) :
    VCalls gz 110 [.lst false 2 (xs.map Nws.enc), .fn f caps] none (fun y _ => y = .lit (.bool (xs.any p))) := by
  refine VCalls.go (nt := 9) (keep := [0, 1, 4]) (muts := []) (mvs := []) [] f110_at rfl (by kernel_rfl) rfl (by kernel_rfl) rfl (fun i h => by cases h) rfl ?_
  intro hok
  simp only [go_sem] at hok
  simp only [Tryz.f110, Func.code, Option.getD_some]
  simp only [go_sem]
  simp only [go_sem, shds_kill _ hc, shds_copy _ _ _ hc]
  refine call_lend ?_
  simp only [go_sem, shds_snap _ hc]
  refine callN.eq (ok145 xs f caps p hc hg hf) (by simp only [go_sem]) ?_
  simp only [go_sem, shds_kill _ hc, shds_copy _ _ _ hc]
  simp only [idxOf_nonneg, Bool.decide_eq_true]
theorem ok108 (v : Vot) (r : Rpl) : VCalls gz 108 [v.enc, .ptr false (r.enc false)] none (fun y _ => y = .lit (.bool (!v.ok r.n))) := by
  refine VCalls.go (nt := 9) (keep := [0, 1, 2, 3]) (muts := []) (mvs := []) [] f108_at rfl (by kernel_rfl) rfl (by kernel_rfl) rfl (fun i h => by cases h) rfl ?_
  intro hok
  simp only [go_sem] at hok
  simp only [Tryz.f108, Func.code, Option.getD_some]
  simp only [go_sem]
  refine call_lend ?_
  simp only [go_sem]
  refine callN.eq (ok109 v r.n) (by simp only [go_sem]) ?_
  simp only [go_sem]
theorem ok111 (x : Nws) (r : Rpl) (hs : srv r.n = true) : VCalls gz 111 [x.enc, .ptr false (r.enc false)] none (fun y _ => y = .lit (.bool (!nwOk r.n x))) := by
  refine VCalls.go (nt := 17) (keep := [0, 1, 2, 3]) (muts := []) (mvs := []) [] f111_at rfl (by kernel_rfl) rfl (by kernel_rfl) rfl (fun i h => by cases h) rfl ?_
  intro hok
  simp only [go_sem] at hok
  simp only [Tryz.f111, Func.code, Option.getD_some]
  simp only [go_sem]
  have hn := srv_iff.1 hs
  have hw : IntKind.i64.wrap (r.n - 1) = r.n - 1 := wrap64 (by omega) (by omega)
  simp only [go_sem, hw]
  refine call_lend ?_
  simp only [go_sem]
  refine callN.eq (ok50 x.src 0 (r.n - 1)) (by simp only [go_sem]) ?_
  simp only [go_sem]
  by_cases h1 : 0 ≤ x.src ∧ x.src ≤ r.n - 1
  rotate_left
  · simp only [go_sem, eq_false h1]
    rw [nwOk, decide_eq_false h1]
    rfl
  simp only [go_sem, eq_true h1]
  refine call_lend ?_
  simp only [go_sem]
  refine callN.eq (ok101 x.view) (by simp only [go_sem]) ?_
  simp only [go_sem]
  rw [nwOk, decide_eq_true h1, Bool.true_and, decide_not]
end Go.VS
set_option linter.unusedSimpArgs false
set_option linter.unusedVariables false
open Go.Proofs
set_option maxRecDepth 20000
namespace Go.VS
theorem numB_ne (n : Nat) : numB n ≠ [] := by
  unfold numB
  split <;> simp
theorem Vot.ok_of {v : Vot} {n : Int} (h : v.ok n = true) : (n = 1 ∨ n = 4 ∨ n = 7) ∧ (0 ≤ v.bY ∧ v.bY ≤ n - 1) ∧ (1 ≤ v.view ∧ v.view ≤ 100000) ∧ (0 ≤ v.name ∧ v.name ≤ 2147483646) ∧ v.tag = tagV v.bY (balB v.view v.name) := by
  simp only [Vot.ok, Bool.and_eq_true, decide_eq_true_eq] at h
  exact ⟨srv_iff.1 h.1, h.2.1, h.2.2.1, h.2.2.2.1, h.2.2.2.2⟩
theorem Prf.few {p : Prf} {n : Int} (h : ∀ j, j < p.bys.length → p.rnd n j = true) : ∀ i, i < p.bys.length → (i : Int) ≤ p.bys.getD i default
  | 0, hi => (Prf.rnd_view (h 0 hi)).2.2.1
  | i + 1, hi => by
    have ih := Prf.few h i (by omega)
    have h1 := h (i + 1) hi
    simp only [Prf.rnd, Bool.and_eq_true, Bool.not_eq_true', Bool.and_eq_false_iff, decide_eq_false_iff_not] at h1
    have h2 := h1.2
    simp only [Nat.add_sub_cancel] at h2
    rcases h2 with h2 | h2 <;> omega
theorem Prf.ok_nums {p : Prf} {n : Int} (h : p.ok n = true) : p.bys.length ≤ 7 ∧ p.bys.length = p.tags.length ∧ inR p.view ∧ inR p.name ∧ ∀ j, j < p.bys.length → inR (p.bys.getD j default) ∧ inR (p.tags.getD j default) := by
  obtain ⟨hs, h1 | ⟨hl, hr⟩⟩ := Prf.ok_cases h
  · simp only [Prf.one, decide_eq_true_eq] at h1
    obtain ⟨h2, h3, h4, h5⟩ := h1
    unfold inR
    refine ⟨by omega, by omega, by omega, by omega, fun j hj => by omega⟩
  · have h0 := Prf.len_pos hs hl
    have hn := srv_iff.1 hs
    have h7 : p.bys.length ≤ 7 := by
      have h1 := Prf.few hr (p.bys.length - 1) (by omega)
      have h2 := (Prf.rnd_view (hr (p.bys.length - 1) (by omega))).2.2.2
      omega
    have h8 := Prf.rnd_view (hr 0 h0)
    refine ⟨h7, hl.2, ⟨by omega, by omega⟩, ⟨by omega, by omega⟩, fun j hj => ?_⟩
    have h9 := Prf.rnd_view (hr j hj)
    have h10 := hr j hj
    simp only [Prf.rnd, Bool.and_eq_true] at h10
    have h11 := (Vot.ok_of h10.1).2.2.2.2
    have h12 := tagV_rng (p.bys.getD j default) (balB p.view p.name)
    simp only at h11
    refine ⟨⟨by omega, by omega⟩, ⟨by omega, by omega⟩⟩
theorem txs_ne {l : List ByteArray} (h : movesOk l = true) : txs l ≠ [] := by
  simp only [movesOk, Bool.and_eq_true, decide_eq_true_eq, Bool.not_eq_true', List.any_eq_false] at h
  have h1 : txs l = txsN l l.length := txsOk_all (by omega) fun j hj => by
    have := h.2 _ (getD_mem hj)
    simp only [mvB, decide_eq_true_eq] at this
    omega
  rw [h1, txsN]
  intro h2
  exact numB_ne _ (List.append_eq_nil_iff.1 h2).1
theorem Blk.ok_of {b : Blk} {n : Int} (h : b.ok n = true) : b.proof.ok n = true ∧ (1 ≤ b.view ∧ b.view ≤ 100000) ∧ b.proof.view < b.view ∧ b.parent = b.proof.name ∧ b.bY = b.view.tmod n ∧ movesOk b.moves = true := by
  simp only [Blk.ok, Bool.and_eq_true, decide_eq_true_eq] at h
  exact ⟨h.1, h.2.1, h.2.2.1, h.2.2.2.1, h.2.2.2.2.1, h.2.2.2.2.2⟩
theorem Blk.ok_sh {b : Blk} {n : Int} (h : b.ok n = true) : b.shOk := by
  obtain ⟨h1, h2, h3, h4, h5, h6⟩ := Blk.ok_of h
  obtain ⟨k1, k2, k3, k4, k5⟩ := Prf.ok_nums h1
  refine ⟨⟨k1, k2⟩, ?_, txs_ne h6, ?_⟩
  · have : ∀ i, i ≤ b.proof.bys.length → ∀ x ∈ shL b i, inR x := by
      intro i
      induction i with
      | zero =>
        intro _ x hx
        rw [shL_zero] at hx
        simp only [List.mem_cons, List.not_mem_nil, or_false] at hx
        rcases hx with rfl | rfl | rfl | rfl | rfl
        · exact ⟨by omega, by omega⟩
        · rw [h4]; exact k4
        · exact k3
        · exact k4
        · exact ⟨by omega, by omega⟩
      | succ i ih =>
        intro hi x hx
        rw [shL_succ] at hx
        rcases List.mem_append.1 hx with hx | hx
        · exact ih (by omega) x hx
        · simp only [List.mem_cons, List.not_mem_nil, or_false] at hx
          rcases hx with rfl | rfl
          · exact (k5 i (by omega)).1
          · exact (k5 i (by omega)).2
    exact this _ (Nat.le_refl _)
  · have hn := srv_iff.1 (Prf.ok_cases h1).1
    rw [h5]
    have h7 := Int.tmod_lt_of_pos b.view (b := n) (by omega)
    have h8 := Int.tmod_nonneg n (a := b.view) (by omega)
    exact ⟨by omega, by omega⟩
theorem Blk.sh_size {b : Blk} (h : b.shOk) : b.sh.size ≠ 0 := by
  rw [Blk.sh_yes h]
  have : b.shB ≠ [] := fun h2 => h.2.2.1 ((List.append_eq_nil_iff.1 (List.append_eq_nil_iff.1 h2).1).2)
  intro h3
  apply this
  apply List.eq_nil_of_length_eq_zero
  simpa [ByteArray.size] using h3
def Blk.nmI (b : Blk) : Int := if b.sh.size = 0 then -1 else b.nm
theorem Blk.nmI_eq {b : Blk} {n : Int} (h : b.ok n = true) : b.nmI = b.nm := if_neg (Blk.sh_size (Blk.ok_sh h))
def Rpl.pty (r : Rpl) : Pty := ⟨r, r.blocks.map Blk.nmI, []⟩
def Rpl.okI (r : Rpl) : Bool := r.hd && (r.hd2 && ((r.pty.bkOk && ((r.high.one || decide (0 ≤ r.pty.has r.high.name r.high.view)) && r.pty.dnOk)) && (r.votes.all (fun v => v.ok r.n) && r.news.all (nwOk r.n))))
section
variable {r : Rpl}
theorem getD_map {α β : Type} [Inhabited α] [Inhabited β] {f : α → β} {xs : List α} {i : Nat} (h : i < xs.length) : (xs.map f).getD i default = f (xs.getD i default) := by
  simp [List.getD, h]
theorem Rpl.names_eq (h : ∀ i, i < r.blocks.length → (r.blocks.getD i default).ok r.n = true) : r.blocks.map Blk.nmI = r.blocks.map Blk.nm :=
  List.map_congr_left fun b hb => by
    obtain ⟨j, hj, rfl⟩ := List.mem_iff_getElem.1 hb
    rw [getElem_D hj]
    exact Blk.nmI_eq (h j hj)
theorem idxOf_first {xs : List Int} {n : Int} {i : Nat} (hi : i < xs.length) : idxOf (isI n) xs = (i : Int) ↔ xs.getD i default = n ∧ ∀ k, k < i → xs.getD k default ≠ n := by
  constructor
  · intro h
    have h1 : xs.any (isI n) = true := idxOf_nonneg.1 (by omega)
    simp only [idxOf, h1, if_true] at h
    have h2 : xs.findIdx (isI n) = i := by omega
    have h3 := (List.findIdx_eq (p := isI n) hi).1 h2
    refine ⟨?_, fun k hk => ?_⟩
    · have := h3.1
      rw [getElem_D hi] at this
      simp only [isI, decide_eq_true_eq] at this
      exact this.symm
    · have := h3.2 k hk
      rw [getElem_D (by omega)] at this
      simp only [isI, decide_eq_false_iff_not] at this
      exact fun h => this h.symm
  · rintro ⟨h1, h2⟩
    refine idxOf_hit (fun x hx => ?_) hi ?_
    · obtain ⟨j, hj, rfl⟩ := List.mem_iff_getElem.1 hx
      rw [List.length_take] at hj
      rw [List.getElem_take, getElem_D (by omega)]
      have := h2 j (by omega)
      simp only [isI, decide_eq_false_iff_not]
      exact fun h => this h.symm
    · rw [getElem_D hi, h1]
      simp [isI]
def Rpl.apart (r : Rpl) : Prop := ∀ i k, i < r.blocks.length → k < i → (r.blocks.getD k default).nm ≠ (r.blocks.getD i default).nm
theorem Rpl.apart_eq (h : r.apart) {i k : Nat} (hi : i < r.blocks.length) (hk : k < r.blocks.length) (he : (r.blocks.getD k default).nm = (r.blocks.getD i default).nm) : k = i := by
  rcases Nat.lt_trichotomy k i with h1 | h1 | h1
  · exact absurd he (h i k hi h1)
  · exact h1
  · exact absurd he.symm (h k i hk h1)
section
variable (hb : ∀ i, i < r.blocks.length → (r.blocks.getD i default).ok r.n = true)
include hb
theorem Rpl.fnd_at {i : Nat} (hi : i < r.blocks.length) {n : Int} : r.pty.fnd n = (i : Int) ↔ (r.blocks.getD i default).nm = n ∧ ∀ k, k < i → (r.blocks.getD k default).nm ≠ n := by
  unfold Pty.fnd Rpl.pty
  simp only
  rw [Rpl.names_eq hb, idxOf_first (by simpa using hi), getD_map hi]
  refine and_congr .rfl ⟨fun h k hk => ?_, fun h k hk => ?_⟩
  · have := h k hk
    rwa [getD_map (by omega)] at this
  · have := h k hk
    rwa [getD_map (by omega)]
theorem Rpl.fnd_of (ha : r.apart) {i : Nat} (hi : i < r.blocks.length) : r.pty.fnd (r.blocks.getD i default).nm = (i : Int) :=
  (Rpl.fnd_at hb hi).2 ⟨rfl, fun k hk => ha i k hi hk⟩
theorem Rpl.fnd_name {n : Int} (h : 0 ≤ r.pty.fnd n) : ∃ i, i < r.blocks.length ∧ r.pty.fnd n = (i : Int) ∧ (r.blocks.getD i default).nm = n := by
  obtain ⟨i, hi⟩ := Int.eq_ofNat_of_zero_le h
  have hr := (idxOf_rng (isI n) r.pty.names).2
  have hl : r.pty.names.length = r.blocks.length := by simp [Rpl.pty]
  have hd : r.pty.fnd n = idxOf (isI n) r.pty.names := rfl
  have hil : i < r.blocks.length := by omega
  exact ⟨i, hil, hi, ((Rpl.fnd_at hb hil).1 hi).1⟩
theorem Rpl.has_any (ha : r.apart) {n v : Int} {m : Nat} (hm : m ≤ r.blocks.length) : (0 ≤ r.pty.has n v ∧ r.pty.has n v < (m : Int)) ↔ (r.blocks.take m).any (fndP n v) = true := by
  rw [List.any_eq_true]
  constructor
  · rintro ⟨h1, h2⟩
    unfold Pty.has at h1 h2
    split at h1
    · omega
    · rename_i hc
      rw [if_neg hc] at h2
      obtain ⟨i, hi, he, hn⟩ := Rpl.fnd_name hb h1
      refine ⟨r.blocks.getD i default, ?_, ?_⟩
      · rw [← getElem_D hi]
        rw [List.mem_take_iff_getElem]
        exact ⟨i, by omega, rfl⟩
      · simp only [fndP, Bool.and_eq_true, decide_eq_true_eq]
        refine ⟨?_, hn⟩
        have h3 : ¬ ¬ (r.blocks.getD (r.pty.fnd n).toNat default).view = v := fun h => hc ⟨h1, h⟩
        rw [he, Int.toNat_natCast] at h3
        exact Decidable.of_not_not h3
  · rintro ⟨b, hbm, hp⟩
    obtain ⟨i, hi, rfl⟩ := List.mem_take_iff_getElem.1 hbm
    have hil : i < r.blocks.length := by omega
    rw [getElem_D hil] at hp
    simp only [fndP, Bool.and_eq_true, decide_eq_true_eq] at hp
    have h1 := Rpl.fnd_of hb ha hil
    rw [hp.2] at h1
    have h2 : r.pty.has n v = (i : Int) := by
      unfold Pty.has
      rw [h1, Int.toNat_natCast]
      have : (r.pty.r.blocks.getD i default).view = v := hp.1
      rw [if_neg (fun h => h.2 this)]
    rw [h2]
    omega
theorem Rpl.knw_eq (ha : r.apart) {i : Nat} (hi : i < r.blocks.length) : r.pty.knw (r.blocks.getD i default) i = knwB (r.blocks.take i) (r.blocks.getD i default).proof := by
  have h1 := (Blk.ok_of (hb i hi)).2.2.2.1
  have h2 := Rpl.has_any hb ha (n := (r.blocks.getD i default).proof.name) (v := (r.blocks.getD i default).proof.view) (m := i) (by omega)
  unfold Pty.knw knwB
  rw [h1]
  have e1 : (decide ((r.blocks.getD i default).proof.name = 0) && (r.blocks.getD i default).proof.one) = (r.blocks.getD i default).proof.one := by
    cases h : (r.blocks.getD i default).proof.one
    · simp
    · simp only [Prf.one, decide_eq_true_eq] at h
      rw [decide_eq_true h.2.1]
      rfl
  rw [e1]
  congr 1
  rw [Bool.eq_iff_iff, Bool.and_eq_true, decide_eq_true_eq, decide_eq_true_eq]
  exact h2
theorem Rpl.high_eq (ha : r.apart) : (r.high.one || decide (0 ≤ r.pty.has r.high.name r.high.view)) = knwB r.blocks r.high := by
  unfold knwB
  congr 1
  rw [Bool.eq_iff_iff, decide_eq_true_eq]
  have h := Rpl.has_any hb ha (n := r.high.name) (v := r.high.view) (m := r.blocks.length) (Nat.le_refl _)
  rw [List.take_length] at h
  rw [← h]
  refine ⟨fun h1 => ⟨h1, ?_⟩, fun h1 => h1.1⟩
  unfold Pty.has at h1 ⊢
  split
  · omega
  · rename_i hc
    rw [if_neg hc] at h1
    obtain ⟨i, hi, he, _⟩ := Rpl.fnd_name hb h1
    omega
end
theorem lastN_one {p : Blk → Bool} {xs : List Blk} {i : Nat} (hp : p (xs.getD i default) = true) (hu : ∀ k, k < xs.length → p (xs.getD k default) = true → k = i) : ∀ m, i < m → m ≤ xs.length → lastN p xs m = (i : Int)
  | 0, h, _ => by omega
  | m + 1, h, hm => by
    unfold lastN
    by_cases hmi : m = i
    · subst hmi
      rw [if_pos hp]
    · rw [if_neg (fun h2 => hmi (hu m (by omega) h2))]
      exact lastN_one hp hu m (by omega) (by omega)
theorem lastN_hit {p : Blk → Bool} {xs : List Blk} : ∀ m, m ≤ xs.length → 0 ≤ lastN p xs m → ∃ i, i < xs.length ∧ lastN p xs m = (i : Int) ∧ p (xs.getD i default) = true
  | 0, _, h => by simp [lastN] at h
  | m + 1, hm, h => by
    unfold lastN at h ⊢
    split
    · rename_i hp
      exact ⟨m, by omega, rfl, hp⟩
    · rename_i hp
      rw [if_neg hp] at h
      exact lastN_hit m (by omega) h
def Rpl.dnI (r : Rpl) (i : Nat) (v : Int) : Prop := (i = 0 ∧ v = 0) ∨ ∃ m, m < r.blocks.length ∧ (r.blocks.getD m default).nm = r.pty.par i ∧ (r.blocks.getD m default).view = v
section
variable (hb : ∀ i, i < r.blocks.length → (r.blocks.getD i default).ok r.n = true) (ha : r.apart) (hk : ∀ i, i < r.blocks.length → knwB (r.blocks.take i) (r.blocks.getD i default).proof = true)
include hb ha hk
theorem Rpl.dn_view {i m : Nat} {v : Int} (hI : r.dnI i v) (hm : m < r.blocks.length) (hp : (r.blocks.getD m default).parent = r.pty.par i) : (r.blocks.getD m default).proof.view = v := by
  have h1 := (Blk.ok_of (hb m hm)).2.2.2.1
  have h2 := hk m hm
  have hnm : ∀ k, 1 ≤ (r.blocks.getD k default).nm := fun k => (Blk.nm_rng _).1
  simp only [knwB, Bool.or_eq_true] at h2
  rcases hI with ⟨rfl, rfl⟩ | ⟨m', hm', h3, h4⟩
  · have h5 : r.pty.par 0 = 0 := rfl
    rcases h2 with h2 | h2
    · simp only [Prf.one, decide_eq_true_eq] at h2
      exact h2.1
    · obtain ⟨b, hbm, hq⟩ := List.any_eq_true.1 h2
      simp only [fndP, Bool.and_eq_true, decide_eq_true_eq] at hq
      have := (Blk.nm_rng b).1
      omega
  · have h5 := hnm m'
    rcases h2 with h2 | h2
    · simp only [Prf.one, decide_eq_true_eq] at h2
      omega
    · obtain ⟨b, hbm, hq⟩ := List.any_eq_true.1 h2
      obtain ⟨k, hk2, rfl⟩ := List.mem_take_iff_getElem.1 hbm
      have hkl : k < r.blocks.length := by omega
      rw [getElem_D hkl] at hq
      simp only [fndP, Bool.and_eq_true, decide_eq_true_eq] at hq
      have : k = m' := Rpl.apart_eq ha hm' hkl (by rw [hq.2, h3, ← hp, h1])
      subst this
      rw [← h4, hq.1]
theorem Rpl.dn_step {i : Nat} {v : Int} (hI : r.dnI i v) :
    (r.pty.dnR i = true → ∃ v', dnS r.blocks (r.done.getD i default) (some (r.pty.par i, v)) = some (r.pty.par (i + 1), v') ∧ r.dnI (i + 1) v') ∧
    (r.pty.dnR i = false → dnS r.blocks (r.done.getD i default) (some (r.pty.par i, v)) = none) := by
  constructor
  · intro h
    simp only [Pty.dnR, Bool.and_eq_true, decide_eq_true_eq] at h
    obtain ⟨h1, h2⟩ := h
    obtain ⟨m, hm, he, hn⟩ := Rpl.fnd_name hb (r := r) (n := r.done.getD i default) h1
    have h3 : r.pty.fnd (r.pty.r.done.getD i default) = (m : Int) := he
    rw [h3, Int.toNat_natCast] at h2
    have h4 : (r.blocks.getD m default).parent = r.pty.par i := h2
    have h5 := Rpl.dn_view hb ha hk hI hm h4
    have h6 := lastN_one (p := lnkP (r.done.getD i default) (r.pty.par i) v) (xs := r.blocks) (i := m) (by simp only [lnkP, hn, h4, h5, decide_true, Bool.and_self]) (fun k hk2 hp => by
      simp only [lnkP, Bool.and_eq_true, decide_eq_true_eq] at hp
      exact Rpl.apart_eq ha hm hk2 (by rw [hp.1, hn])) r.blocks.length hm (Nat.le_refl _)
    refine ⟨(r.blocks.getD m default).view, ?_, .inr ⟨m, hm, hn, rfl⟩⟩
    unfold dnS
    simp only [h6, Int.toNat_natCast]
    rw [if_neg (by omega)]
    rfl
  · intro h
    unfold dnS
    simp only
    by_cases h1 : lastN (lnkP (r.done.getD i default) (r.pty.par i) v) r.blocks r.blocks.length < 0
    · rw [if_pos h1]
    · exfalso
      have h9 : 0 ≤ lastN (lnkP (r.done.getD i default) (r.pty.par i) v) r.blocks r.blocks.length := by omega
      obtain ⟨m, hm, he, hp⟩ := lastN_hit _ (Nat.le_refl _) h9
      simp only [lnkP, Bool.and_eq_true, decide_eq_true_eq] at hp
      have h2 := Rpl.fnd_of hb ha hm
      rw [hp.1] at h2
      have h3 : r.pty.fnd (r.pty.r.done.getD i default) = (m : Int) := h2
      have h4 : (r.pty.r.blocks.getD m default).parent = r.pty.par i := hp.2.1
      rw [Pty.dnR, h3, Int.toNat_natCast, decide_eq_true h4, decide_eq_true (by omega)] at h
      cases h
theorem Rpl.dn_all : ∀ i, i ≤ r.done.length → (∃ v, dnN r.blocks r.done i = some (r.pty.par i, v) ∧ r.dnI i v ∧ ∀ j, j < i → r.pty.dnR j = true) ∨ (dnN r.blocks r.done i = none ∧ ∃ j, j < i ∧ r.pty.dnR j = false)
  | 0, _ => .inl ⟨0, rfl, .inl ⟨rfl, rfl⟩, fun j hj => by omega⟩
  | i + 1, hi => by
    rcases Rpl.dn_all i (by omega) with ⟨v, h1, h2, h3⟩ | ⟨h1, j, hj, h2⟩
    · have h4 := Rpl.dn_step hb ha hk h2
      cases h : r.pty.dnR i
      · exact .inr ⟨by rw [dnN, h1]; exact h4.2 h, i, by omega, h⟩
      · obtain ⟨v', h5, h6⟩ := h4.1 h
        exact .inl ⟨v', by rw [dnN, h1]; exact h5, h6, nx h3 h⟩
    · exact .inr ⟨by rw [dnN, h1]; rfl, j, by omega, h2⟩
theorem Rpl.dn_eq : r.pty.dnOk = dnB r.blocks r.done := by
  unfold dnB
  rcases Rpl.dn_all hb ha hk r.done.length (Nat.le_refl _) with ⟨v, h1, _, h3⟩ | ⟨h1, j, hj, h2⟩
  · rw [h1]
    exact List.all_eq_true.2 fun x hx => h3 x (List.mem_range.1 hx)
  · rw [h1]
    exact Pty.dn_bad (p := r.pty) hj h2
end
theorem Rpl.bkR_eq (hb : ∀ i, i < r.blocks.length → (r.blocks.getD i default).ok r.n = true) (ha : r.apart) {i : Nat} (hi : i < r.blocks.length) : r.pty.bkR i = r.bk i := by
  have h1 : r.pty.names.getD i default = (r.blocks.getD i default).nm := by
    show (r.blocks.map Blk.nmI).getD i default = _
    rw [Rpl.names_eq hb, getD_map hi]
  have h2 : ((List.range i).all fun k => !decide ((r.blocks.getD k default).nm = (r.blocks.getD i default).nm)) = true := List.all_eq_true.2 fun k hk => by
    rw [decide_eq_false (ha i k hi (List.mem_range.1 hk))]
    rfl
  rw [Pty.bkR, h1, Rpl.fnd_of hb ha hi, Rpl.bk, h2, Bool.and_true, decide_eq_true rfl, Bool.true_and]
  have h3 := Rpl.knw_eq hb ha hi
  exact congrArg (fun x => (r.blocks.getD i default).ok r.n && x) h3
theorem range_all {n : Nat} {f : Nat → Bool} : (List.range n).all f = true ↔ ∀ i, i < n → f i = true := by
  simp only [List.all_eq_true, List.mem_range]
theorem range_all_congr {n : Nat} {f g : Nat → Bool} (h : ∀ i, i < n → f i = g i) : (List.range n).all f = (List.range n).all g := by
  rw [Bool.eq_iff_iff, range_all, range_all]
  exact ⟨fun k i hi => (h i hi) ▸ k i hi, fun k i hi => (h i hi).symm ▸ k i hi⟩
theorem Rpl.law (r : Rpl) : r.okI = r.ok := by
  unfold Rpl.okI Rpl.ok
  congr 1
  cases h2 : r.hd2
  · rfl
  have h60 : r.blocks.length ≤ 60 := by
    simp only [Rpl.hd2, Bool.and_eq_true, decide_eq_true_eq] at h2
    exact h2.2.1
  have hbk : r.pty.bkOk = (List.range r.blocks.length).all r.pty.bkR := by
    show (decide (r.blocks.length ≤ 60) && _) = _
    rw [decide_eq_true h60, Bool.true_and]
    rfl
  rw [hbk, Bool.true_and, Bool.true_and]
  by_cases hb : ∀ i, i < r.blocks.length → (r.blocks.getD i default).ok r.n = true
  rotate_left
  · have h3 : ∃ i, i < r.blocks.length ∧ (r.blocks.getD i default).ok r.n = false := Classical.byContradiction fun h => hb fun i hi => by
      cases hq : (r.blocks.getD i default).ok r.n
      · exact absurd ⟨i, hi, hq⟩ h
      · rfl
    obtain ⟨i, hi, hq⟩ := h3
    have e1 : (List.range r.blocks.length).all r.pty.bkR = false := List.all_eq_false.2 ⟨i, List.mem_range.2 hi, by
      have : (r.pty.r.blocks.getD i default).ok r.pty.r.n = false := hq
      rw [Pty.bkR, this]
      simp⟩
    have e2 : (List.range r.blocks.length).all r.bk = false := List.all_eq_false.2 ⟨i, List.mem_range.2 hi, by rw [Rpl.bk, hq]; simp⟩
    rw [e1, e2]
    rfl
  by_cases ha : r.apart
  rotate_left
  · have h3 : ∃ i k, i < r.blocks.length ∧ k < i ∧ (r.blocks.getD k default).nm = (r.blocks.getD i default).nm := Classical.byContradiction fun h => ha fun i k hi hk he => h ⟨i, k, hi, hk, he⟩
    obtain ⟨i, k, hi, hk, hq⟩ := h3
    have e1 : (List.range r.blocks.length).all r.pty.bkR = false := List.all_eq_false.2 ⟨i, List.mem_range.2 hi, by
      have h1 : r.pty.names.getD i default = (r.blocks.getD i default).nm := by
        show (r.blocks.map Blk.nmI).getD i default = _
        rw [Rpl.names_eq hb, getD_map hi]
      have h4 : ¬ r.pty.fnd (r.blocks.getD i default).nm = (i : Int) := fun h => ((Rpl.fnd_at hb hi).1 h).2 k hk hq
      rw [Pty.bkR, h1, decide_eq_false h4]
      simp⟩
    have e2 : (List.range r.blocks.length).all r.bk = false := List.all_eq_false.2 ⟨i, List.mem_range.2 hi, by
      have : ((List.range i).all fun k => !decide ((r.blocks.getD k default).nm = (r.blocks.getD i default).nm)) = false := List.all_eq_false.2 ⟨k, List.mem_range.2 hk, by rw [decide_eq_true hq]; decide⟩
      rw [Rpl.bk, this]
      simp⟩
    rw [e1, e2]
    rfl
  rw [range_all_congr (g := r.bk) fun i hi => Rpl.bkR_eq hb ha hi]
  cases hq : (List.range r.blocks.length).all r.bk
  · rfl
  have hk : ∀ i, i < r.blocks.length → knwB (r.blocks.take i) (r.blocks.getD i default).proof = true := fun i hi => by
    have := range_all.1 hq i hi
    simp only [Rpl.bk, Bool.and_eq_true] at this
    exact this.2.1
  rw [Rpl.high_eq hb ha, Rpl.dn_eq hb ha hk, Bool.true_and, Bool.true_and]
  cases r.votes.all (fun v => v.ok r.n) <;> cases r.news.all (nwOk r.n) <;> simp
end
end Go.VS
set_option linter.unusedSimpArgs false
set_option linter.unusedVariables false
open Go.Proofs
set_option maxRecDepth 20000
namespace Go.VS
theorem f151_at : gz.P.funcs[151]? = some Tryz.f151 := by
  have h : Tryz.prog.funcs[151]? = some Tryz.f151 := by kernel_rfl
  exact h
theorem f113_at : gz.P.funcs[113]? = some Tryz.f113 := by
  have h : Tryz.prog.funcs[113]? = some Tryz.f113 := by kernel_rfl
  exact h
set_option maxHeartbeats 4000000 in
theorem ok151 (b : Blk) : VCalls gz 151 [b.enc false] none (fun y _ => y = .lit (.string b.sh)) := by
  refine VCalls.go (nt := 106) (keep := [0, 1, 2, 3, 4, 5, 6, 7, 9, 11, 35, 53, 54, 55, 56, 76, 77, 78, 79, 84, 86, 87, 88, 89]) (muts := []) (mvs := [1076]) [] f151_at rfl (by kernel_rfl) rfl (by kernel_rfl) rfl (fun i h => by cases h) rfl ?_
  intro hok
  simp only [go_sem] at hok
  simp only [Tryz.f151, Func.code, Option.getD_some]
  simp only [go_sem]
  refine call_lend ?_
  simp only [go_sem]
  refine callN.eq (ok171 b.moves) (by simp only [go_sem]) ?_
  simp only [go_sem]
  intro hm hm2
  have htl := txs_len (l := b.moves)
  by_cases h2 : (b.proof.bys.length : Int) = (b.proof.tags.length : Int)
  rotate_left
  · have : b.sh = ⟨#[]⟩ := Blk.sh_no fun h => by have := h.1.2; omega
    simp only [go_sem, h2, this]
  simp only [go_sem, eq_true h2]
  by_cases h1 : 7 < (b.proof.bys.length : Int)
  · have : b.sh = ⟨#[]⟩ := Blk.sh_no fun h => by have := h.1.1; omega
    simp only [go_sem, h1, this]
  simp only [go_sem, h1]
  by_cases ht : ((txs b.moves).length : Int) = 0
  · have : b.sh = ⟨#[]⟩ := Blk.sh_no fun h => h.2.2.1 (List.eq_nil_of_length_eq_zero (by omega))
    simp only [go_sem, eq_true ht, this]
  simp only [go_sem, ht]
  intro _ _ _ _
  have hl7 : b.proof.bys.length ≤ 7 := by omega
  have hl2 : b.proof.bys.length = b.proof.tags.length := by omega
  refine vm_loopK (α := Nat) (fun i => [(1, .ptr true (b.enc false)), (2, .lit (.string ⟨#[]⟩)), (3, .lst true 1 ((txs b.moves).map byteA)), (4, .lst true 1 ((shL b i).map intA)), (53, .lst false 1 (b.proof.bys.map intA)), (54, .lit (.int .i64 b.proof.bys.length)), (55, .lit (.int .i64 i))]) (fun i => i ≤ b.proof.bys.length) (fun i => b.proof.bys.length - i) 0 ?_ (by omega) (by kernel_rfl) (fun _ => rfl) ?_
  · simp only [go_sem, shL_zero]
    try rfl
  · intro i hi hk
    simp only [go_sem]
    first | refine branch_ndec (fun h6 => ?_) (fun h6 => ?_) | refine branch_dec (fun h6 => ?_) (fun h6 => ?_) | refine branch_nbool (fun h6 => ?_) (fun h6 => ?_) | refine branch_split (fun h6 => ?_) (fun h6 => ?_)
    · have hlt : i < b.proof.bys.length := by omega
      have hlt2 : i < b.proof.tags.length := by omega
      have h0 : (0 : Int) ≤ (i : Int) := by omega
      have h6b : (i : Int) < (b.proof.tags.length : Int) := by omega
      have hw3 : IntKind.i64.wrap ((i : Int) + 1) = ((i + 1 : Nat) : Int) := by rw [wrap64 (by omega) (by omega)]; omega
      have hsl := shL_len (b := b) (i := i)
      simp only [go_sem, h0, hlt, h6, hlt2, h6b, hw3]
      refine ⟨by omega, ?_⟩
      refine again_intro (i + 1) (by omega) (by omega) ?_
      simp only [go_sem]
      rw [shL_succ, List.map_append]
      try rfl
    · have hie : i = b.proof.bys.length := by omega
      subst hie
      simp only [go_sem]
      have hsl := shL_len (b := b) (i := b.proof.bys.length)
      obtain ⟨L, hL⟩ : ∃ L, L = shL b b.proof.bys.length := ⟨_, rfl⟩
      rw [← hL] at hsl ⊢
      refine ⟨by omega, fun _ => ?_⟩
      obtain ⟨M, hM⟩ : ∃ M, M = L ++ [b.bY] := ⟨_, rfl⟩
      have hMl : M.length = L.length + 1 := by rw [hM]; simp
      have hMin : b.sh = ⟨#[]⟩ ∨ (∀ x ∈ L, inR x) ∧ inR b.bY := by
        by_cases hq : (∀ x ∈ L, inR x) ∧ inR b.bY
        · exact .inr hq
        · exact .inl (Blk.sh_no fun h => hq ⟨by rw [hL]; exact h.2.1, h.2.2.2⟩)
      refine vm_loopK (α := Nat) (fun k => [(1, .ptr true (b.enc false)), (2, .lit (.string ⟨#[]⟩)), (3, .lst true 1 ((txs b.moves).map byteA)), (4, .lst false 1 (L.map intA)), (7, .lst true 1 []), (76, .lst false 1 (M.map intA)), (77, .lit (.int .i64 M.length)), (78, .lit (.int .i64 k))]) (fun k => k ≤ M.length ∧ ∀ j, j < k → inR (M.getD j default)) (fun k => M.length - k) 0 ?_ ⟨by omega, fun j hj => by omega⟩ (by kernel_rfl) (fun _ => rfl) ?_
      · simp only [go_sem]
        rw [hM, hsl]
        simp only [List.map_append, List.map_cons, List.map_nil, intA_eq, List.length_append, List.length_cons, List.length_nil, hsl]
        exact ⟨trivial, trivial, rfl⟩
      · rintro k ⟨hk2, hin⟩ hkk
        simp only [go_sem]
        first | refine branch_ndec (fun h8 => ?_) (fun h8 => ?_) | refine branch_dec (fun h8 => ?_) (fun h8 => ?_) | refine branch_nbool (fun h8 => ?_) (fun h8 => ?_) | refine branch_split (fun h8 => ?_) (fun h8 => ?_)
        · have hlt : k < M.length := by omega
          have h0 : (0 : Int) ≤ (k : Int) := by omega
          have hw3 : IntKind.i64.wrap ((k : Int) + 1) = ((k + 1 : Nat) : Int) := by rw [wrap64 (by omega) (by omega)]; omega
          simp only [go_sem, h0, hlt, h8]
          refine call_lend ?_
          simp only [go_sem]
          refine callN.eq (ok50 (M.getD k default) 0 1099511627776) (by simp only [go_sem]) ?_
          simp only [go_sem]
          by_cases h9 : 0 ≤ M.getD k default ∧ M.getD k default ≤ 1099511627776
          rotate_left
          · have : b.sh = ⟨#[]⟩ := by
              rcases hMin with h | h
              · exact h
              · exfalso
                have hm := getD_mem hlt
                rw [hM] at hm h9
                rcases List.mem_append.1 hm with hm | hm
                · exact h9 (h.1 _ hm)
                · rw [List.mem_singleton.1 hm] at h9
                  exact h9 h.2
            simp only [go_sem, eq_false h9, this]
          simp only [go_sem, eq_true h9, hw3]
          refine again_intro (k + 1) ⟨by omega, nx hin h9⟩ (by omega) ?_
          simp only [go_sem]
          try rfl
        · have hall : ∀ x ∈ M, inR x := fun x hx => by
            obtain ⟨j, hj, rfl⟩ := List.mem_iff_getElem.1 hx
            rw [getElem_D hj]
            exact hin j (by omega)
          have hallL : ∀ x ∈ L, inR x := fun x hx => hall x (by rw [hM]; exact List.mem_append.2 (.inl hx))
          have hb : inR b.bY := hall _ (by rw [hM]; simp)
          simp only [go_sem]
          intro _
          refine vm_loopK (α := Nat) (fun k => [(1, .ptr true (b.enc false)), (3, .lst true 1 ((txs b.moves).map byteA)), (7, .lst true 1 ((nums (L.take k)).map byteA)), (86, .lst false 1 (L.map intA)), (87, .lit (.int .i64 L.length)), (88, .lit (.int .i64 k))]) (fun k => k ≤ L.length) (fun k => L.length - k) 0 ?_ (by omega) (by kernel_rfl) (fun _ => rfl) ?_
          · simp only [go_sem]
            exact ⟨rfl, rfl⟩
          · intro k hk3 hkk3
            simp only [go_sem]
            first | refine branch_ndec (fun h10 => ?_) (fun h10 => ?_) | refine branch_dec (fun h10 => ?_) (fun h10 => ?_) | refine branch_nbool (fun h10 => ?_) (fun h10 => ?_) | refine branch_split (fun h10 => ?_) (fun h10 => ?_)
            · have hlt : k < L.length := by omega
              have h0 : (0 : Int) ≤ (k : Int) := by omega
              have hw3 : IntKind.i64.wrap ((k : Int) + 1) = ((k + 1 : Nat) : Int) := by rw [wrap64 (by omega) (by omega)]; omega
              have hr : inR (L.getD k default) := hallL _ (getD_mem hlt)
              obtain ⟨m, hmm⟩ := Int.eq_ofNat_of_zero_le hr.1
              have hm9 : m ≤ 1099511627776 := by have := hr.2; omega
              simp only [go_sem, h0, hlt, h10, hmm]
              refine call_lend ?_
              simp only [go_sem]
              refine callN.eq (ok172 m hm9) (by simp only [go_sem]) ?_
              simp only [go_sem]
              have hl9 := numB_len9 (n := m) (by omega)
              have hnl := nums_len (xs := L.take k) (fun x hx => hallL x (List.mem_of_mem_take hx))
              rw [List.length_take] at hnl
              refine ⟨by omega, ?_⟩
              rw [hw3]
              refine again_intro (k + 1) (by omega) (by omega) ?_
              simp only [go_sem]
              rw [take_succ_getD hlt, nums_app, List.map_append, hmm]
              have e : nums [(m : Int)] = numB m := by simp [nums]
              rw [e]
              try trivial
            · have hke : k = L.length := by omega
              subst hke
              simp only [go_sem]
              have hsh : b.shOk := ⟨⟨hl7, hl2⟩, by rw [← hL]; exact hallL, fun h => ht (by rw [h]; rfl), hb⟩
              have hnl := nums_len hallL
              obtain ⟨m, hmm⟩ := Int.eq_ofNat_of_zero_le hb.1
              have hm9 : m ≤ 1099511627776 := by have := hb.2; omega
              have hl9 := numB_len9 (n := m) (by omega)
              simp only [go_sem, hmm]
              refine ⟨by omega, ?_⟩
              refine call_lend ?_
              simp only [go_sem]
              refine callN.eq (ok172 m hm9) (by simp only [go_sem]) ?_
              simp only [go_sem]
              refine ⟨by omega, ?_⟩
              simp only [go_sem, strOfA_3]
              rw [Blk.sh_yes hsh, Blk.shB, ← hL, hmm]
              rfl
theorem ok113 (b : Blk) : VCalls gz 113 [b.enc false] none (fun y _ => y = .lit (.int .i64 (if b.sh.size = 0 then -1 else b.nm))) := by
  refine VCalls.go (nt := 11) (keep := [0, 1, 2, 3, 7]) (muts := []) (mvs := []) [] f113_at rfl (by kernel_rfl) rfl (by kernel_rfl) rfl (fun i h => by cases h) rfl ?_
  intro hok
  simp only [go_sem] at hok
  simp only [Tryz.f113, Func.code, Option.getD_some]
  simp only [go_sem]
  refine call_lend ?_
  simp only [go_sem]
  refine callN.eq (ok151 b) (by simp only [go_sem]) ?_
  simp only [go_sem]
  first | refine branch_ndec (fun h => ?_) (fun h => ?_) | refine branch_dec (fun h => ?_) (fun h => ?_) | refine branch_nbool (fun h => ?_) (fun h => ?_) | refine branch_split (fun h => ?_) (fun h => ?_)
  · have : b.sh.size = 0 := by rw [h]; rfl
    simp only [go_sem, this]
  · have : ¬ b.sh.size = 0 := fun hs => h (bext (List.eq_nil_of_length_eq_zero (by rw [← bsz, hs])))
    simp only [go_sem, this]
    refine call_lend ?_
    simp only [go_sem]
    refine callN.eq (ok152 b.sh) (by simp only [go_sem]) ?_
    simp only [go_sem]
    rfl
end Go.VS
