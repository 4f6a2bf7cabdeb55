/- VS: functions by the machine. -/
import Derived.Test.YtbpjfoaafgmeaaaGreatDoorVr
import Derived.Test.YtbpjfoaafgmeaaaGreatDoorVu
import Derived.Test.YtbpjfoaafgmeaaaGreatDoorVn
set_option linter.unusedSimpArgs false
set_option linter.unusedVariables false
open Go.Proofs
set_option maxRecDepth 20000
namespace Go.VS
theorem f15_at : gz.P.funcs[15]? = some Tryz.f15 := by
  have h : Tryz.prog.funcs[15]? = some Tryz.f15 := by kernel_rfl
  exact h
theorem f17_at : gz.P.funcs[17]? = some Tryz.f17 := by
  have h : Tryz.prog.funcs[17]? = some Tryz.f17 := by kernel_rfl
  exact h
theorem f74_at : gz.P.funcs[74]? = some Tryz.f74 := by
  have h : Tryz.prog.funcs[74]? = some Tryz.f74 := by kernel_rfl
  exact h
theorem f120_at : gz.P.funcs[120]? = some Tryz.f120 := by
  have h : Tryz.prog.funcs[120]? = some Tryz.f120 := by kernel_rfl
  exact h
theorem f73_at : gz.P.funcs[73]? = some Tryz.f73 := by
  have h : Tryz.prog.funcs[73]? = some Tryz.f73 := by kernel_rfl
  exact h
theorem ok120 (xs : List Msg) (f : Nat) (caps : List AVal) (p : Msg → Bool) (hc : shdAs caps = true) (hg : caps.all (fun x => !isAggA x) = true) (hf : ∀ x ∈ xs, VCalls gz f ((Msg.enc false) x :: caps) none (fun y _ => y = .lit (.bool (p x)))) :
    VCalls gz 120 [.lst false 20 (xs.map (Msg.enc false)), .fn f caps] none (fun y _ => y = .lit (.int .i64 (idxOf p xs))) := by
  refine VCalls.go (nt := 19) (keep := [0, 1, 4, 5, 7, 8, 9, 16]) (muts := []) (mvs := []) [] f120_at rfl (by kernel_rfl) rfl (by kernel_rfl) rfl (fun i h => by cases h) rfl ?_
  intro hok
  simp only [go_sem] at hok
  simp only [Tryz.f120, Func.code, Option.getD_some]
  simp only [go_sem]
  simp only [go_sem, shds_kill _ hc, shds_copy _ _ _ hc]
  intro hl
  refine vm_loopK (α := Nat) (fun i => [(0, .lst false 20 (xs.map (Msg.enc false))), (1, .fn f caps), (4, .lit (.int .i64 0)), (7, .lit (.int .i64 xs.length)), (8, .lit (.int .i64 i))]) (fun i => i ≤ xs.length ∧ ∀ x ∈ xs.take i, p x = false) (fun i => xs.length - i) 0 ?_ ⟨by omega, by simp⟩ (by kernel_rfl) (fun _ => rfl) ?_
  · simp only [go_sem]
    trivial
  · intro i hi _
    simp only [go_sem]
    first | refine branch_ndec (fun h => ?_) (fun h => ?_) | refine branch_dec (fun h => ?_) (fun h => ?_) | refine branch_nbool (fun h => ?_) (fun h => ?_) | refine branch_split (fun h => ?_) (fun h => ?_)
    · have hlt : i < xs.length := by omega
      simp only [go_sem, shds_kill _ hc, shds_copy _ _ _ hc]
      refine ⟨by omega, by omega, hlt, hg, ?_⟩
      refine call_lend ?_
      simp only [go_sem, shds_snap _ hc]
      refine callN.eq (hf _ (getD_mem hlt)) (by simp only [go_sem]) ?_
      simp only [go_sem, shds_kill _ hc, shds_copy _ _ _ hc]
      have hget : xs.getD i default = xs[i] := by simp [List.getD, List.getElem?_eq_getElem hlt]
      rw [hget]
      refine branch_split (fun h2 => ?_) (fun h2 => ?_)
      · simp only [go_sem, shds_kill _ hc, shds_copy _ _ _ hc]
        exact (idxOf_hit hi.2 hlt h2).symm
      · simp only [go_sem, shds_kill _ hc, shds_copy _ _ _ hc]
        simp (disch := omega) only [wrap64, wrapU64, wrapU32, wrapU8]
        refine again_intro (i + 1) ⟨by omega, ?_⟩ (by omega) ?_
        · intro x hx
          rw [take_succ_getD hlt, List.mem_append, hget] at hx
          rcases hx with hx | hx
          · exact hi.2 x hx
          · simp only [List.mem_singleton] at hx
            rw [hx]
            exact h2
        · simp only [go_sem]
          omega
    · simp only [go_sem]
      have hie : i = xs.length := by omega
      refine (idxOf_none ?_).symm
      have := hi.2
      rwa [hie, List.take_length] at this
theorem ok73 (xs : List Msg) (f : Nat) (caps : List AVal) (p : Msg → Bool) (hc : shdAs caps = true) (hg : caps.all (fun x => !isAggA x) = true) (hf : ∀ x ∈ xs, VCalls gz f ((Msg.enc false) x :: caps) none (fun y _ => y = .lit (.bool (p x)))) :
    VCalls gz 73 [.lst false 20 (xs.map (Msg.enc false)), .fn f caps] none (fun y _ => y = .lit (.bool (xs.any p))) := by
  refine VCalls.go (nt := 9) (keep := [0, 1, 4]) (muts := []) (mvs := []) [] f73_at rfl (by kernel_rfl) rfl (by kernel_rfl) rfl (fun i h => by cases h) rfl ?_
  intro hok
  simp only [go_sem] at hok
  simp only [Tryz.f73, Func.code, Option.getD_some]
  simp only [go_sem]
  simp only [go_sem, shds_kill _ hc, shds_copy _ _ _ hc]
  refine call_lend ?_
  simp only [go_sem, shds_snap _ hc]
  refine callN.eq (ok120 xs f caps p hc hg hf) (by simp only [go_sem]) ?_
  simp only [go_sem, shds_kill _ hc, shds_copy _ _ _ hc]
  simp only [idxOf_nonneg, Bool.decide_eq_true]
def rpB (rs : List Rpl) (i : Nat) : Bool := decide ((rs.getD i default).id = (i : Int)) && (decide ((rs.getD i default).n = (rs.length : Int)) && (rs.getD i default).ok)
def msB (n : Int) (m : Msg) : Bool := decide (0 ≤ m.dst ∧ m.dst ≤ n - 1)
/-- is a cluster right? -/
def Clu.ok (c : Clu) : Bool := srv c.reps.length && (decide (c.net.length ≤ 150) && ((List.range c.reps.length).all (rpB c.reps) && c.net.all (msB c.reps.length)))
theorem Clu.ok_srv {c : Clu} (h : srv c.reps.length = false) : c.ok = false := by simp only [Clu.ok, h, Bool.false_and]
theorem Clu.ok_long {c : Clu} (h : ¬ c.net.length ≤ 150) : c.ok = false := by simp only [Clu.ok, decide_eq_false h, Bool.false_and, Bool.and_false]
theorem Clu.ok_rp {c : Clu} {i : Nat} (hi : i < c.reps.length) (h : rpB c.reps i = false) : c.ok = false := by
  have : (List.range c.reps.length).all (rpB c.reps) = false := List.all_eq_false.2 ⟨i, List.mem_range.2 hi, by simp [h]⟩
  simp only [Clu.ok, this, Bool.false_and, Bool.and_false]
theorem Clu.ok_ms {c : Clu} {i : Nat} (hi : i < c.net.length) (h : msB c.reps.length (c.net.getD i default) = false) : c.ok = false := by
  have : c.net.all (msB c.reps.length) = false := List.all_eq_false.2 ⟨_, getD_mem hi, by rw [h]; decide⟩
  simp only [Clu.ok, this, Bool.and_false]
set_option maxHeartbeats 2000000 in
theorem ok15 (c : Clu) : VCalls gz 15 [c.enc false] none (fun y _ => y = .lit (.bool c.ok)) := by
  refine VCalls.go (nt := 67) (keep := [0, 1, 2, 3, 4, 5, 17, 20, 49, 54, 66]) (muts := []) (mvs := []) [] f15_at rfl (by kernel_rfl) rfl (by kernel_rfl) rfl (fun i h => by cases h) rfl ?_
  intro hok
  simp only [go_sem] at hok
  simp only [Tryz.f15, Func.code, Option.getD_some]
  simp only [go_sem]
  intro hm
  obtain ⟨N, hN⟩ : ∃ N, N = c.reps.length := ⟨_, rfl⟩
  refine call_lend ?_
  simp only [go_sem]
  refine callN.eq (ok37 (c.reps.length : Int)) (by simp only [go_sem]) ?_
  simp only [go_sem]
  cases h : srv (c.reps.length : Int)
  · simp only [go_sem, Clu.ok_srv h]
  have hn := srv_iff.1 h
  have hw : IntKind.i64.wrap ((c.reps.length : Int) - 1) = (c.reps.length : Int) - 1 := wrap64 (by omega) (by omega)
  simp only [go_sem]
  intro hm2
  by_cases h8 : 150 < (c.net.length : Int)
  · simp only [go_sem, eq_true h8, Clu.ok_long (c := c) (by omega)]
  simp only [go_sem, h8]
  refine vm_loopK (α := Nat) (fun i => [(1, .ptr true (c.enc false)), (2, .lit (.bool false)), (3, .lit (.int .i64 c.reps.length)), (4, .lit (.int .i64 i))]) (fun i => i ≤ c.reps.length ∧ ∀ j, j < i → rpB c.reps j = true) (fun i => c.reps.length - i) 0 ?_ ⟨by omega, fun j hj => by omega⟩ (by kernel_rfl) (fun _ => rfl) ?_
  · simp only [go_sem]
    try rfl
  · rintro i ⟨hi, he⟩ hk
    simp only [go_sem]
    first | refine branch_ndec (fun h6 => ?_) (fun h6 => ?_) | refine branch_dec (fun h6 => ?_) (fun h6 => ?_) | refine branch_nbool (fun h6 => ?_) (fun h6 => ?_) | refine branch_split (fun h6 => ?_) (fun h6 => ?_)
    · have hlt : i < c.reps.length := by omega
      have h0 : (0 : Int) ≤ (i : Int) := by omega
      have hw3 : IntKind.i64.wrap ((i : Int) + 1) = ((i + 1 : Nat) : Int) := by rw [wrap64 (by omega) (by omega)]; omega
      simp only [go_sem, h0, hlt, h6]
      by_cases g1 : (c.reps.getD i default).id = (i : Int)
      rotate_left
      · simp only [go_sem, g1, Clu.ok_rp hlt (by simp only [rpB, decide_eq_false g1, Bool.false_and])]
      simp only [go_sem, eq_true g1, h0, hlt, h6]
      by_cases g2 : (c.reps.getD i default).n = (c.reps.length : Int)
      rotate_left
      · simp only [go_sem, g2, Clu.ok_rp hlt (by simp only [rpB, decide_eq_false g2, Bool.false_and, Bool.and_false])]
      simp only [go_sem, eq_true g2, h0, hlt, h6]
      refine call_lend ?_
      simp only [go_sem]
      refine callN.eq (ok10 (c.reps.getD i default)) (by simp only [go_sem]) ?_
      simp only [go_sem]
      cases g3 : (c.reps.getD i default).ok
      · simp only [go_sem, Clu.ok_rp hlt (by simp only [rpB, g3, Bool.and_false])]
      simp only [go_sem, hw3]
      refine again_intro (i + 1) ⟨by omega, nx he (by simp only [rpB, g1, g2, g3, decide_true, Bool.and_self])⟩ (by omega) ?_
      simp only [go_sem]
      try rfl
    · have hrp : (List.range c.reps.length).all (rpB c.reps) = true := List.all_eq_true.2 fun x hx => he x (by have := List.mem_range.1 hx; omega)
      simp only [go_sem]
      refine vm_loopK (α := Nat) (fun i => [(1, .ptr true (c.enc false)), (2, .lit (.bool false)), (3, .lit (.int .i64 c.reps.length)), (5, .lit (.int .i64 i))]) (fun i => i ≤ c.net.length ∧ ∀ j, j < i → msB c.reps.length (c.net.getD j default) = true) (fun i => c.net.length - i) 0 ?_ ⟨by omega, fun j hj => by omega⟩ (by kernel_rfl) (fun _ => rfl) ?_
      · simp only [go_sem]
        try rfl
      · rintro k ⟨hk2, he2⟩ hkk
        simp only [go_sem]
        intro _
        first | refine branch_ndec (fun h14 => ?_) (fun h14 => ?_) | refine branch_dec (fun h14 => ?_) (fun h14 => ?_) | refine branch_nbool (fun h14 => ?_) (fun h14 => ?_) | refine branch_split (fun h14 => ?_) (fun h14 => ?_)
        · have hlt2 : k < c.net.length := by omega
          have h02 : (0 : Int) ≤ (k : Int) := by omega
          have hw4 : IntKind.i64.wrap ((k : Int) + 1) = ((k + 1 : Nat) : Int) := by rw [wrap64 (by omega) (by omega)]; omega
          simp only [go_sem, h02, hlt2, h14, hw]
          refine call_lend ?_
          simp only [go_sem]
          refine callN.eq (ok38 (c.net.getD k default).dst 0 ((c.reps.length : Int) - 1)) (by simp only [go_sem]) ?_
          simp only [go_sem]
          by_cases g1 : 0 ≤ (c.net.getD k default).dst ∧ (c.net.getD k default).dst ≤ (c.reps.length : Int) - 1
          rotate_left
          · simp only [go_sem, eq_false g1, Clu.ok_ms hlt2 (by rw [msB, decide_eq_false g1])]
          simp only [go_sem, eq_true g1, hw4]
          refine again_intro (k + 1) ⟨by omega, nx he2 (by rw [msB, decide_eq_true g1])⟩ (by omega) ?_
          simp only [go_sem]
          try rfl
        · have hms : c.net.all (msB c.reps.length) = true := List.all_eq_true.2 fun x hx => by
            obtain ⟨j, hj, rfl⟩ := List.mem_iff_getElem.1 hx
            rw [getElem_D hj]
            exact he2 j (by omega)
          have : c.ok = true := by simp only [Clu.ok, h, hrp, hms, decide_eq_true (show c.net.length ≤ 150 by omega), Bool.and_self]
          simp only [go_sem, this]
theorem ok74 (m : Msg) (n : Int) (hn : 0 ≤ n ∧ n ≤ 1048576) : VCalls gz 74 [m.enc false, .ptr false (.lit (.int .i64 n))] none (fun y _ => y = .lit (.bool (!msB n m))) := by
  refine VCalls.go (nt := 10) (keep := [0, 1, 2, 3]) (muts := []) (mvs := []) [] f74_at rfl (by kernel_rfl) rfl (by kernel_rfl) rfl (fun i h => by cases h) rfl ?_
  intro hok
  simp only [go_sem] at hok
  simp only [Tryz.f74, Func.code, Option.getD_some]
  simp only [go_sem]
  have hw : IntKind.i64.wrap (n - 1) = n - 1 := wrap64 (by omega) (by omega)
  simp only [go_sem, hw]
  refine call_lend ?_
  simp only [go_sem]
  refine callN.eq (ok52 m.dst 0 (n - 1)) (by simp only [go_sem]) ?_
  simp only [go_sem]
  rw [msB, decide_not]
def Clu.hold (c : Clu) : Prop := ∀ i, i < c.reps.length → (c.reps.getD i default).hold
set_option maxHeartbeats 2000000 in
theorem ok17 (c : Clu) (hc : c.hold) : VCalls gz 17 [c.enc false] none (fun y _ => y = .lit (.bool c.ok)) := by
  refine VCalls.go (nt := 48) (keep := [0, 1, 2, 3, 4, 5, 23, 25, 26, 27, 28, 46]) (muts := []) (mvs := []) [] f17_at rfl (by kernel_rfl) rfl (by kernel_rfl) rfl (fun i h => by cases h) rfl ?_
  intro hok
  simp only [go_sem] at hok
  simp only [Tryz.f17, Func.code, Option.getD_some]
  simp only [go_sem]
  intro hm
  refine call_lend ?_
  simp only [go_sem]
  refine callN.eq (ok51 (c.reps.length : Int)) (by simp only [go_sem]) ?_
  simp only [go_sem]
  cases h : srv (c.reps.length : Int)
  · simp only [go_sem, qrm_neg, h, Clu.ok_srv h]
  have hn := srv_iff.1 h
  simp only [go_sem, qrm_neg, h]
  intro hm2
  by_cases h8 : 150 < (c.net.length : Int)
  · simp only [go_sem, eq_true h8, Clu.ok_long (c := c) (by omega)]
  simp only [go_sem, h8]
  have e1 : (!c.net.any (fun m => !msB c.reps.length m)) = c.net.all (msB c.reps.length) := by rw [List.all_eq_not_any_not]
  refine call_lend ?_
  simp only [go_sem]
  refine callN.eq (ok73 c.net 74 [_] (fun m => !msB c.reps.length m) rfl rfl (fun x _ => ok74 x c.reps.length (by omega))) (by simp only [go_sem]) ?_
  simp only [go_sem]
  cases hv : c.net.any (fun m => !msB c.reps.length m)
  rotate_left
  · have : c.ok = false := by simp only [Clu.ok, ← e1, hv, Bool.not_true, Bool.and_false]
    simp only [go_sem, this]
  simp only [go_sem]
  intro hm3
  refine vm_loopK (α := Nat) (fun i => [(1, .ptr true (c.enc false)), (2, .lit (.bool false)), (3, .ptr true (.lit (.int .i64 c.reps.length))), (25, .lst false 14 (c.reps.map (Rpl.enc false))), (26, .lit (.int .i64 c.reps.length)), (27, .lit (.int .i64 i))]) (fun i => i ≤ c.reps.length ∧ ∀ j, j < i → rpB c.reps j = true) (fun i => c.reps.length - i) 0 ?_ ⟨by omega, fun j hj => by omega⟩ (by kernel_rfl) (fun _ => rfl) ?_
  · simp only [go_sem]
    try rfl
  · rintro i ⟨hi, he⟩ hk
    simp only [go_sem]
    first | refine branch_ndec (fun h6 => ?_) (fun h6 => ?_) | refine branch_dec (fun h6 => ?_) (fun h6 => ?_) | refine branch_nbool (fun h6 => ?_) (fun h6 => ?_) | refine branch_split (fun h6 => ?_) (fun h6 => ?_)
    · have hlt : i < c.reps.length := by omega
      have h0 : (0 : Int) ≤ (i : Int) := by omega
      have hw3 : IntKind.i64.wrap ((i : Int) + 1) = ((i + 1 : Nat) : Int) := by rw [wrap64 (by omega) (by omega)]; omega
      simp only [go_sem, h0, hlt, h6]
      by_cases g1 : (c.reps.getD i default).id = (i : Int)
      rotate_left
      · simp only [go_sem, g1, Clu.ok_rp hlt (by simp only [rpB, decide_eq_false g1, Bool.false_and])]
      simp only [go_sem, eq_true g1, h0, hlt, h6]
      by_cases g2 : (c.reps.getD i default).n = (c.reps.length : Int)
      rotate_left
      · simp only [go_sem, g2, Clu.ok_rp hlt (by simp only [rpB, decide_eq_false g2, Bool.false_and, Bool.and_false])]
      simp only [go_sem, eq_true g2, h0, hlt, h6]
      refine call_lend ?_
      simp only [go_sem]
      refine callN.eq (ok12 (c.reps.getD i default) (hc i hlt)) (by simp only [go_sem]) ?_
      simp only [go_sem]
      cases g3 : (c.reps.getD i default).ok
      · simp only [go_sem, Rpl.law, g3, Clu.ok_rp hlt (by simp only [rpB, g3, Bool.and_false])]
      simp only [go_sem, Rpl.law, g3, hw3]
      refine again_intro (i + 1) ⟨by omega, nx he (by simp only [rpB, g1, g2, g3, decide_true, Bool.and_self])⟩ (by omega) ?_
      simp only [go_sem]
      try rfl
    · have hrp : (List.range c.reps.length).all (rpB c.reps) = true := List.all_eq_true.2 fun x hx => he x (by have := List.mem_range.1 hx; omega)
      have : c.ok = true := by simp only [Clu.ok, h, hrp, ← e1, hv, decide_eq_true (show c.net.length ≤ 150 by omega), Bool.and_self, Bool.not_false]
      simp only [go_sem, this]
end Go.VS

set_option linter.unusedSimpArgs false
set_option linter.unusedVariables false
open Go.Proofs
set_option maxRecDepth 20000
namespace Go.VS
theorem f4_at : gz.P.funcs[4]? = some Tryz.f4 := by
  have h : Tryz.prog.funcs[4]? = some Tryz.f4 := by kernel_rfl
  exact h
theorem Clu.hold_of {c : Clu} (h : c.sz ≤ 1048576) : c.hold := fun i hi => by
  have h2 : szL Rpl.sz c.reps + szL Msg.sz c.net ≤ 1048576 := h
  have := getD_sz (f := Rpl.sz) hi
  exact Rpl.hold_of (by omega)
theorem ok4 (c : Clu) : VCalls gz 4 [c.enc false] none (fun y _ => y = .lit (.bool true)) := by
  refine VCalls.go (nt := 27) (keep := [0, 1, 2, 3, 4, 5, 6, 11, 21, 26]) (muts := []) (mvs := []) [(10, .tree true (.take 0 (.take 1 (.all (.cons 2 (.all (.cons 3 (.take 4 .done) .nil)) .nil)))))] f4_at rfl (by kernel_rfl) rfl (by kernel_rfl) rfl (fun i h => by cases h) rfl ?_
  intro hok
  simp only [go_sem] at hok
  simp only [Tryz.f4, Func.code, Option.getD_some]
  simp only [go_sem]
  refine call_lend ?_
  simp only [go_sem]
  refine callN.eq (ok14 c 1048576 ⟨by omega, by omega⟩) (by simp only [go_sem]) ?_
  simp only [go_sem]
  by_cases h1 : (c.sz : Int) ≤ 1048576
  rotate_left
  · have e : szR c.sz 1048576 = -1 := szR_lt (by omega)
    rw [e]
    simp only [go_sem]
    try trivial
  · have e : szR c.sz 1048576 = 1048576 - c.sz := szR_le h1
    have n1 : ¬ ((1048576 : Int) - c.sz < 0) := by omega
    rw [e]
    simp only [go_sem, n1]
    have hz : c.sz ≤ 1048576 := by omega
    refine call_lend ?_
    simp only [go_sem]
    refine callN.eq (ok16 c hz) (by simp only [go_sem]) ?_
    simp only [go_sem]
    refine call_lend ?_
    simp only [go_sem]
    refine callN.eq (ok15 c) (by simp only [go_sem]) ?_
    simp only [go_sem]
    refine call_lend ?_
    simp only [go_sem]
    refine callN.eq (ok16 c hz) (by simp only [go_sem]) ?_
    simp only [go_sem]
    refine call_lend ?_
    simp only [go_sem]
    refine callN.eq (ok17 c (Clu.hold_of hz)) (by simp only [go_sem]) ?_
    simp only [go_sem]
    simp only [go_sem, bne_self_eq_false]
    repeat' refine And.intro ?_ ?_
    all_goals
      refine call_lend ?_
      simp only [go_sem]
      refine callN.eq (ok16 c hz) (by simp only [go_sem]) ?_
      simp only [go_sem]
      refine call_lend ?_
      simp only [go_sem]
      refine callN.eq (ok18 c c) (by simp only [go_sem]) ?_
      simp only [go_sem]
end Go.VS

set_option linter.unusedSimpArgs false
set_option linter.unusedVariables false
open Go.Proofs
set_option maxRecDepth 20000
namespace Go.VS
theorem f25_at : gz.P.funcs[25]? = some Tryz.f25 := by
  have h : Tryz.prog.funcs[25]? = some Tryz.f25 := by kernel_rfl
  exact h
theorem f26_at : gz.P.funcs[26]? = some Tryz.f26 := by
  have h : Tryz.prog.funcs[26]? = some Tryz.f26 := by kernel_rfl
  exact h
theorem f6_at : gz.P.funcs[6]? = some Tryz.f6 := by
  have h : Tryz.prog.funcs[6]? = some Tryz.f6 := by kernel_rfl
  exact h
theorem Blk.sh_le (b : Blk) : b.sh.size ≤ 1000000 := by
  by_cases h : b.shOk
  · rw [Blk.sh_yes h]
    have h1 : (⟨b.shB.toArray⟩ : ByteArray).size = b.shB.length := by simp [ByteArray.size]
    rw [h1, Blk.shB, List.length_append, List.length_append]
    have h2 := nums_len h.2.1
    have h3 := txs_len (l := b.moves)
    have h4 := h.2.2.2
    unfold inR at h4
    have h5 := numB_len9 (n := b.bY.toNat) (by omega)
    have h6 := shL_len (b := b) (i := b.proof.bys.length)
    have h7 := h.1.1
    omega
  · rw [Blk.sh_no h]
    decide
/-! ### What was seen: names and texts -/
def encS (q : Int × ByteArray) : Value × Value := (.int .i64 q.1, .string q.2)
def tFind (n : Int) : List (Int × ByteArray) → Option ByteArray
  | [] => none
  | q :: qs => if n = q.1 then some q.2 else tFind n qs
def tPut (n : Int) (s : ByteArray) : List (Int × ByteArray) → List (Int × ByteArray)
  | [] => [(n, s)]
  | q :: qs => if n = q.1 then (n, s) :: qs else q :: tPut n s qs
theorem mFind_S (n : Int) : ∀ qs, mFind (.int .i64 n) (List.map encS qs) = (tFind n qs).map Value.string
  | [] => rfl
  | q :: qs => by
    simp only [List.map_cons, mFind, tFind, encS, keyEq, beq_iff_eq, mFind_S n qs]
    split <;> rfl
theorem mPut_S (n : Int) (s : ByteArray) : ∀ qs, mPut (.int .i64 n) (.string s) (List.map encS qs) = List.map encS (tPut n s qs)
  | [] => rfl
  | q :: qs => by
    simp only [List.map_cons, mPut, tPut, encS, keyEq, beq_iff_eq, mPut_S n s qs]
    split <;> rfl
theorem keyS {qs : List (Int × ByteArray)} : (∀ p ∈ List.map encS qs, keyB (.int .i64) p.1 = true) = True := eq_true fun p hp => by
  obtain ⟨q, _, rfl⟩ := List.mem_map.1 hp
  rfl
theorem tFind_put (n m : Int) (s : ByteArray) : ∀ qs, tFind n (tPut m s qs) = if n = m then some s else tFind n qs
  | [] => by simp [tPut, tFind]
  | q :: qs => by
    unfold tPut
    by_cases h : m = q.1
    · rw [if_pos h]
      simp only [tFind, h]
      split <;> rfl
    · rw [if_neg h]
      simp only [tFind, tFind_put n m s qs]
      by_cases h2 : n = q.1
      · rw [if_pos h2, if_neg (by omega), if_pos h2]
      · rw [if_neg h2, if_neg h2]
theorem tPut_all {P : ByteArray → Prop} {n : Int} {s : ByteArray} (hs : P s) : ∀ {qs : List (Int × ByteArray)}, (∀ q ∈ qs, P q.2) → ∀ q ∈ tPut n s qs, P q.2
  | [], _, q, hq => by
    simp only [tPut, List.mem_singleton] at hq
    subst hq
    exact hs
  | x :: qs, h, q, hq => by
    unfold tPut at hq
    split at hq
    · rcases List.mem_cons.1 hq with rfl | hq
      · exact hs
      · exact h q (List.mem_cons_of_mem _ hq)
    · rcases List.mem_cons.1 hq with rfl | hq
      · exact h _ (List.mem_cons_self ..)
      · exact tPut_all hs (fun q hq => h q (List.mem_cons_of_mem _ hq)) q hq
/-- all that the blocks name is told apart by their texts -/
def apS (xs : List Blk) (i k : Nat) : Bool := !(decide ((xs.getD k default).nm = (xs.getD i default).nm) && !decide ((xs.getD k default).sh = (xs.getD i default).sh))
def apB (xs : List Blk) : Bool := (List.range xs.length).all fun i => (List.range i).all (apS xs i)
theorem apB_bad {xs : List Blk} {i k : Nat} (hi : i < xs.length) (hk : k < i) (h : apS xs i k = false) : apB xs = false :=
  List.all_eq_false.2 ⟨i, List.mem_range.2 hi, by
    have : (List.range i).all (apS xs i) = false := List.all_eq_false.2 ⟨k, List.mem_range.2 hk, by rw [h]; decide⟩
    rw [this]
    decide⟩
theorem apB_iff {xs : List Blk} : apB xs = true ↔ ∀ i k, i < xs.length → k < i → (xs.getD k default).nm = (xs.getD i default).nm → (xs.getD k default).sh = (xs.getD i default).sh := by
  simp only [apB, List.all_eq_true, List.mem_range, apS, Bool.not_eq_true', Bool.and_eq_false_iff, decide_eq_false_iff_not, Bool.not_eq_false', decide_eq_true_eq]
  constructor
  · intro h i k hi hk he
    rcases h i hi k hk with h1 | h1
    · exact absurd he h1
    · exact h1
  · intro h i hi k hk
    by_cases he : (xs.getD k default).nm = (xs.getD i default).nm
    · exact .inr (h i k hi hk he)
    · exact .inl he
theorem apB_mem {xs : List Blk} (h : apB xs = true) {x y : Blk} (hx : x ∈ xs) (hy : y ∈ xs) (he : x.nm = y.nm) : x.sh = y.sh := by
  obtain ⟨i, hi, rfl⟩ := List.mem_iff_getElem.1 hx
  obtain ⟨k, hk, rfl⟩ := List.mem_iff_getElem.1 hy
  rw [getElem_D hi, getElem_D hk] at *
  rcases Nat.lt_trichotomy i k with h1 | h1 | h1
  · exact apB_iff.1 h k i hk h1 he
  · rw [h1]
  · exact (apB_iff.1 h i k hi h1 he.symm).symm
def Clu.blN (c : Clu) : Nat → List Blk
  | 0 => []
  | i + 1 => c.blN i ++ (c.reps.getD i default).blocks
def Clu.all (c : Clu) : List Blk := c.blN c.reps.length
theorem Clu.blN_len {c : Clu} (h : ∀ i, i < c.reps.length → (c.reps.getD i default).blocks.length ≤ 60) : ∀ i, i ≤ c.reps.length → (c.blN i).length ≤ i * 60
  | 0, _ => by simp [Clu.blN]
  | i + 1, hi => by
    have h1 := Clu.blN_len h i (by omega)
    have h2 := h i (by omega)
    rw [Clu.blN, List.length_append]
    omega
theorem Clu.blN_mem {c : Clu} {x : Blk} : ∀ i, i ≤ c.reps.length → x ∈ c.blN i → ∃ k, k < c.reps.length ∧ x ∈ (c.reps.getD k default).blocks
  | 0, _, h => by simp [Clu.blN] at h
  | i + 1, hi, h => by
    rw [Clu.blN] at h
    rcases List.mem_append.1 h with h | h
    · exact Clu.blN_mem i (by omega) h
    · exact ⟨i, by omega, h⟩
theorem Clu.blN_sub {c : Clu} {x : Blk} : ∀ {i j : Nat}, i ≤ j → x ∈ c.blN i → x ∈ c.blN j
  | i, 0, h, hx => by
    have : i = 0 := by omega
    subst this
    exact hx
  | i, j + 1, h, hx => by
    by_cases hij : i = j + 1
    · subst hij; exact hx
    · rw [Clu.blN]
      exact List.mem_append.2 (.inl (Clu.blN_sub (by omega) hx))
theorem Clu.ok_reps {c : Clu} (h : c.ok = true) : (c.reps.length = 1 ∨ c.reps.length = 4 ∨ c.reps.length = 7) ∧ ∀ i, i < c.reps.length → (c.reps.getD i default).ok = true := by
  simp only [Clu.ok, Bool.and_eq_true] at h
  have h1 := srv_iff.1 h.1
  refine ⟨by omega, fun i hi => ?_⟩
  have := range_all.1 h.2.2.1 i hi
  simp only [rpB, Bool.and_eq_true] at this
  exact this.2.2
theorem Rpl.ok_few {r : Rpl} (h : r.ok = true) : r.blocks.length ≤ 60 ∧ ∀ i, i < r.blocks.length → (r.blocks.getD i default).ok r.n = true := by
  simp only [Rpl.ok, Rpl.hd2, Bool.and_eq_true, decide_eq_true_eq] at h
  refine ⟨h.2.1.2.1, fun i hi => ?_⟩
  have := range_all.1 h.2.2.1 i hi
  simp only [Rpl.bk, Bool.and_eq_true] at this
  exact this.1
theorem Clu.nmI_eq {c : Clu} (h : c.ok = true) {x : Blk} {i : Nat} (hi : i ≤ c.reps.length) (hx : x ∈ c.blN i) : x.nmI = x.nm := by
  obtain ⟨k, hk, hx⟩ := Clu.blN_mem i hi hx
  obtain ⟨j, hj, rfl⟩ := List.mem_iff_getElem.1 hx
  rw [getElem_D hj]
  exact Blk.nmI_eq ((Rpl.ok_few ((Clu.ok_reps h).2 k hk)).2 j hj)
set_option maxHeartbeats 4000000 in
theorem ok25 (c : Clu) : VCalls gz 25 [c.enc false] none (fun y _ => y = .lit (.bool (c.ok && apB c.all))) := by
  refine VCalls.go (nt := 63) (keep := [0, 1, 2, 3, 4, 5, 6, 7, 10, 16, 30, 40, 62]) (muts := []) (mvs := []) [(15, .tree true (.take 0 (.take 1 (.take 2 (.take 3 (.take 5 (.take 6 (.take 7 (.take 8 (.all (.cons 4 (.all (.cons 9 (.take 10 (.take 11 (.take 12 (.take 13 (.take 14 (.take 15 (.take 17 (.all (.cons 16 (.take 18 (.take 19 .done)) .nil))))))))) .nil)) .nil)))))))))))] f25_at rfl (by kernel_rfl) rfl (by kernel_rfl) rfl (fun i h => by cases h) rfl ?_
  intro hok
  simp only [go_sem] at hok
  simp only [Tryz.f25, Func.code, Option.getD_some]
  simp only [go_sem]
  refine call_lend ?_
  simp only [go_sem]
  refine callN.eq (ok15 c) (by simp only [go_sem]) ?_
  simp only [go_sem]
  cases hok1 : c.ok
  · simp only [go_sem]
    try rfl
  simp only [go_sem]
  have hr7 := (Clu.ok_reps hok1).1
  have hfew : ∀ i, i < c.reps.length → (c.reps.getD i default).blocks.length ≤ 60 := fun i hi => (Rpl.ok_few ((Clu.ok_reps hok1).2 i hi)).1
  refine vm_loopK (α := Nat) (fun i => [(1, .ptr true (c.enc false)), (2, .lit (.bool false)), (3, .lst true 8 ((c.blN i).map (Blk.enc false))), (4, .lit (.int .i64 i))]) (fun i => i ≤ c.reps.length) (fun i => c.reps.length - i) 0 ?_ (by omega) (by kernel_rfl) (fun _ => rfl) ?_
  · simp only [go_sem]
    try exact ⟨rfl, rfl⟩
  · intro i hi hk
    simp only [go_sem]
    intro _
    first | refine branch_ndec (fun h6 => ?_) (fun h6 => ?_) | refine branch_dec (fun h6 => ?_) (fun h6 => ?_) | refine branch_nbool (fun h6 => ?_) (fun h6 => ?_) | refine branch_split (fun h6 => ?_) (fun h6 => ?_)
    · have hlt : i < c.reps.length := by omega
      have h0 : (0 : Int) ≤ (i : Int) := by omega
      have hw3 : IntKind.i64.wrap ((i : Int) + 1) = ((i + 1 : Nat) : Int) := by rw [wrap64 (by omega) (by omega)]; omega
      have hbl := Clu.blN_len hfew i hi
      have hf := hfew i hlt
      simp only [go_sem, h0, hlt, h6, hw3]
      refine ⟨by omega, ?_⟩
      refine again_intro (i + 1) (by omega) (by omega) ?_
      simp only [go_sem]
      rw [Clu.blN, List.map_append]
      try rfl
    · have hie : i = c.reps.length := by omega
      subst hie
      obtain ⟨A, hA⟩ : ∃ A, A = c.all := ⟨_, rfl⟩
      have hA2 : c.blN c.reps.length = A := hA.symm
      rw [← hA]
      simp only [go_sem, hA2]
      have hAl : A.length ≤ 420 := by
        have := Clu.blN_len hfew c.reps.length (Nat.le_refl _)
        rw [hA2] at this
        omega
      refine vm_loopK (α := Nat) (fun i => [(2, .lit (.bool false)), (3, .lst true 8 (A.map (Blk.enc false))), (5, .lit (.int .i64 i))]) (fun i => i ≤ A.length ∧ ∀ j, j < i → (List.range j).all (apS A j) = true) (fun i => A.length - i) 0 ?_ ⟨by omega, fun j hj => by omega⟩ (by kernel_rfl) (fun _ => rfl) ?_
      · simp only [go_sem]
        try rfl
      · rintro i ⟨hi2, he⟩ hk2
        simp only [go_sem]
        intro _
        first | refine branch_ndec (fun h7 => ?_) (fun h7 => ?_) | refine branch_dec (fun h7 => ?_) (fun h7 => ?_) | refine branch_nbool (fun h7 => ?_) (fun h7 => ?_) | refine branch_split (fun h7 => ?_) (fun h7 => ?_)
        rotate_left
        · have : apB A = true := List.all_eq_true.2 fun x hx => he x (by have := List.mem_range.1 hx; omega)
          simp only [go_sem, this, Bool.and_self]
        have hlt : i < A.length := by omega
        have h0 : (0 : Int) ≤ (i : Int) := by omega
        have hw3 : IntKind.i64.wrap ((i : Int) + 1) = ((i + 1 : Nat) : Int) := by rw [wrap64 (by omega) (by omega)]; omega
        simp only [go_sem, h0, hlt, h7]
        refine call_lend ?_
        simp only [go_sem]
        refine callN.eq (ok87 (A.getD i default)) (by simp only [go_sem]) ?_
        simp only [go_sem]
        refine vm_loopK (α := Nat) (fun k => [(2, .lit (.bool false)), (3, .lst true 8 (A.map (Blk.enc false))), (5, .lit (.int .i64 i)), (6, .lit (.string (A.getD i default).sh)), (7, .lit (.int .i64 k))]) (fun k => k ≤ i ∧ ∀ j, j < k → apS A i j = true) (fun k => i - k) 0 ?_ ⟨by omega, fun j hj => by omega⟩ (by kernel_rfl) (fun _ => rfl) ?_
        · simp only [go_sem]
          try rfl
        · rintro k ⟨hk3, he2⟩ hkk
          simp only [go_sem]
          first | refine branch_ndec (fun h8 => ?_) (fun h8 => ?_) | refine branch_dec (fun h8 => ?_) (fun h8 => ?_) | refine branch_nbool (fun h8 => ?_) (fun h8 => ?_) | refine branch_split (fun h8 => ?_) (fun h8 => ?_)
          rotate_left
          · simp only [go_sem, hw3]
            refine again_intro (i + 1) ⟨by omega, nx he (List.all_eq_true.2 fun x hx => he2 x (by have := List.mem_range.1 hx; omega))⟩ (by omega) ?_
            simp only [go_sem]
            try rfl
          have hlt2 : k < A.length := by omega
          have h02 : (0 : Int) ≤ (k : Int) := by omega
          have h8b : (k : Int) < (A.length : Int) := by omega
          have hw4 : IntKind.i64.wrap ((k : Int) + 1) = ((k + 1 : Nat) : Int) := by rw [wrap64 (by omega) (by omega)]; omega
          simp only [go_sem, h0, hlt, h7, h02, hlt2, h8b]
          repeat' refine And.intro ?_ ?_
          all_goals
            refine call_lend ?_
            simp only [go_sem]
            refine callN.eq (ok43 (A.getD k default)) (by simp only [go_sem]) ?_
            simp only [go_sem]
            try simp only [go_sem, h0, hlt, h7, h02, hlt2, h8b]
            refine call_lend ?_
            simp only [go_sem]
            refine callN.eq (ok43 (A.getD i default)) (by simp only [go_sem]) ?_
            simp only [go_sem]
            by_cases g : (A.getD k default).nm = (A.getD i default).nm
            rotate_left
            · have hap : apS A i k = true := by rw [apS, decide_eq_false g]; rfl
              simp only [go_sem, g, hw4]
              refine again_intro (k + 1) ⟨by omega, nx he2 hap⟩ (by omega) ?_
              simp only [go_sem]
              try rfl
            simp only [go_sem, eq_true g, h0, hlt, h7, h02, hlt2, h8b]
            repeat' refine And.intro ?_ ?_
            all_goals
              refine call_lend ?_
              simp only [go_sem]
              refine callN.eq (ok87 (A.getD k default)) (by simp only [go_sem]) ?_
              simp only [go_sem]
              by_cases g2 : (A.getD k default).sh = (A.getD i default).sh
              · have hap : apS A i k = true := by rw [apS, decide_eq_true g2]; simp
                simp only [go_sem, eq_true g2, hw4]
                refine again_intro (k + 1) ⟨by omega, nx he2 hap⟩ (by omega) ?_
                simp only [go_sem]
                try rfl
              · have hap : apS A i k = false := by rw [apS, decide_eq_true g, decide_eq_false g2]; rfl
                simp only [go_sem, g2, apB_bad hlt (show k < i by omega) hap, Bool.and_false]
/-- what was seen of the blocks so far -/
structure Seen (P : List Blk) (tb : List (Int × ByteArray)) : Prop where
  hit : ∀ x ∈ P, tFind x.nmI tb = some x.sh
  mis : ∀ n, (∀ x ∈ P, x.nmI ≠ n) → tFind n tb = none
  few : ∀ q ∈ tb, q.2.size ≤ 9223372036854775807
theorem Seen.nil : Seen [] [] := ⟨fun x hx => by simp at hx, fun n _ => rfl, fun q hq => by simp at hq⟩
theorem Seen.find {P : List Blk} {tb : List (Int × ByteArray)} (h : Seen P tb) {n : Int} {s : ByteArray} (hf : tFind n tb = some s) : ∃ x ∈ P, x.nmI = n ∧ x.sh = s := by
  apply Classical.byContradiction
  intro hc
  by_cases hq : ∃ x ∈ P, x.nmI = n
  · obtain ⟨x, hx, rfl⟩ := hq
    have := h.hit x hx
    rw [hf] at this
    exact hc ⟨x, hx, rfl, (Option.some.inj this).symm⟩
  · have := h.mis n fun x hx he => hq ⟨x, hx, he⟩
    rw [hf] at this
    cases this
theorem Seen.step {P : List Blk} {tb : List (Int × ByteArray)} (h : Seen P tb) {b : Blk} (hb : ∀ s, tFind b.nmI tb = some s → s = b.sh) : Seen (P ++ [b]) (tPut b.nmI b.sh tb) := by
  refine ⟨fun x hx => ?_, fun n hn => ?_, tPut_all (P := fun s => s.size ≤ 9223372036854775807) (by have := b.sh_le; omega) h.few⟩
  · rw [tFind_put]
    rcases List.mem_append.1 hx with hx | hx
    · by_cases he : x.nmI = b.nmI
      · rw [if_pos he]
        have := h.hit x hx
        rw [he] at this
        rw [hb _ this]
      · rw [if_neg he]
        exact h.hit x hx
    · rw [List.mem_singleton.1 hx, if_pos rfl]
  · rw [tFind_put, if_neg fun he => hn b (by simp) he.symm]
    exact h.mis n fun x hx => hn x (List.mem_append.2 (.inl hx))
theorem Seen.ap {c : Clu} (h : c.ok = true) {tb : List (Int × ByteArray)} (hs : Seen (c.blN c.reps.length) tb) : apB c.all = true := apB_iff.2 fun i k hi hk he => by
  have hx : c.all.getD i default ∈ c.all := getD_mem hi
  have hy : c.all.getD k default ∈ c.all := getD_mem (by omega)
  have e1 := Clu.nmI_eq h (Nat.le_refl _) hx
  have e2 := Clu.nmI_eq h (Nat.le_refl _) hy
  have h1 := hs.hit _ hx
  have h2 := hs.hit _ hy
  rw [e1] at h1
  rw [e2, he, h1] at h2
  exact (Option.some.inj h2).symm
set_option maxHeartbeats 4000000 in
theorem ok26 (c : Clu) (hc : c.hold) : VCalls gz 26 [c.enc false] none (fun y _ => y = .lit (.bool (c.ok && apB c.all))) := by
  refine VCalls.go (nt := 51) (keep := [0, 1, 2, 3, 5, 7, 8, 9, 10, 11, 14, 17, 18, 19, 20, 24, 25, 26, 27, 45]) (muts := []) (mvs := []) [(10, .tree true (.take 0 (.take 2 (.all (.cons 1 (.all (.cons 3 (.all (.cons 4 (.all (.cons 5 .done .nil)) .nil)) .nil)) .nil)))))] f26_at rfl (by kernel_rfl) rfl (by kernel_rfl) rfl (fun i h => by cases h) rfl ?_
  intro hok
  simp only [go_sem] at hok
  simp only [Tryz.f26, Func.code, Option.getD_some]
  simp only [go_sem]
  refine call_lend ?_
  simp only [go_sem]
  refine callN.eq (ok17 c hc) (by simp only [go_sem]) ?_
  simp only [go_sem]
  cases hok1 : c.ok
  · simp only [go_sem]
    try rfl
  simp only [go_sem]
  intro hm
  refine vm_loopK (α := Nat × List (Int × ByteArray)) (fun q => [(1, .ptr true (c.enc false)), (2, .lit (.bool false)), (3, .mp true (q.2.map encS)), (17, .lst false 14 (c.reps.map (Rpl.enc false))), (18, .lit (.int .i64 c.reps.length)), (19, .lit (.int .i64 q.1))]) (fun q => q.1 ≤ c.reps.length ∧ Seen (c.blN q.1) q.2) (fun q => c.reps.length - q.1) (0, []) ?_ ⟨by simp, Seen.nil⟩ (by kernel_rfl) (fun _ => rfl) ?_
  · simp only [go_sem]
    try rfl
  · rintro ⟨i, tb⟩ ⟨hi, hs⟩ hk
    simp only at hi hs
    simp only [go_sem]
    first | refine branch_ndec (fun h6 => ?_) (fun h6 => ?_) | refine branch_dec (fun h6 => ?_) (fun h6 => ?_) | refine branch_nbool (fun h6 => ?_) (fun h6 => ?_) | refine branch_split (fun h6 => ?_) (fun h6 => ?_)
    rotate_left
    · have hie : i = c.reps.length := by omega
      subst hie
      have hap : apB c.all = true := Seen.ap hok1 hs
      simp only [go_sem, hap, Bool.and_self]
    have hlt : i < c.reps.length := by omega
    have h0 : (0 : Int) ≤ (i : Int) := by omega
    have hw3 : IntKind.i64.wrap ((i : Int) + 1) = ((i + 1 : Nat) : Int) := by rw [wrap64 (by omega) (by omega)]; omega
    simp only [go_sem, h0, hlt, h6]
    intro hm2
    obtain ⟨R, hR⟩ : ∃ R, R = c.reps.getD i default := ⟨_, rfl⟩
    rw [← hR] at hm2 ⊢
    refine vm_loopK (α := Nat × List (Int × ByteArray)) (fun q => [(1, .ptr true (c.enc false)), (2, .lit (.bool false)), (3, .mp true (q.2.map encS)), (17, .lst false 14 (c.reps.map (Rpl.enc false))), (18, .lit (.int .i64 c.reps.length)), (19, .lit (.int .i64 i)), (24, .lst false 8 (R.blocks.map (Blk.enc false))), (25, .lit (.int .i64 R.blocks.length)), (26, .lit (.int .i64 q.1))]) (fun q => q.1 ≤ R.blocks.length ∧ Seen (c.blN i ++ R.blocks.take q.1) q.2) (fun q => R.blocks.length - q.1) (0, tb) ?_ ⟨by simp, by simpa using hs⟩ (by kernel_rfl) (fun _ => rfl) ?_
    · simp only [go_sem]
      try rfl
    · rintro ⟨k, tb2⟩ ⟨hk2, hs2⟩ hkk
      simp only at hk2 hs2
      simp only [go_sem]
      first | refine branch_ndec (fun h8 => ?_) (fun h8 => ?_) | refine branch_dec (fun h8 => ?_) (fun h8 => ?_) | refine branch_nbool (fun h8 => ?_) (fun h8 => ?_) | refine branch_split (fun h8 => ?_) (fun h8 => ?_)
      rotate_left
      · have hke : k = R.blocks.length := by omega
        subst hke
        simp only [go_sem, hw3]
        refine again_intro (i + 1, tb2) ⟨by simp only; omega, by simp only; rw [Clu.blN, ← hR]; rwa [List.take_length] at hs2⟩ (by simp only; omega) ?_
        simp only [go_sem]
        try rfl
      have hlt2 : k < R.blocks.length := by omega
      have h02 : (0 : Int) ≤ (k : Int) := by omega
      have hw4 : IntKind.i64.wrap ((k : Int) + 1) = ((k + 1 : Nat) : Int) := by rw [wrap64 (by omega) (by omega)]; omega
      simp only [go_sem, h02, hlt2, h8]
      refine call_lend ?_
      simp only [go_sem]
      refine callN.eq (ok88 (R.blocks.getD k default)) (by simp only [go_sem]) ?_
      simp only [go_sem]
      refine call_lend ?_
      simp only [go_sem]
      refine callN.eq (ok89 (R.blocks.getD k default)) (by simp only [go_sem]) ?_
      simp only [go_sem]
      obtain ⟨b, hb⟩ : ∃ b, b = R.blocks.getD k default := ⟨_, rfl⟩
      rw [← hb]
      have hnm : (if b.sh.size = 0 then (-1 : Int) else b.nm) = b.nmI := rfl
      rw [hnm]
      have hbm : ∀ x, x ∈ c.blN i ++ R.blocks.take (k + 1) → x ∈ c.all := fun x hx => Clu.blN_sub (i := i + 1) (by omega) (by
        rw [Clu.blN, ← hR]
        rcases List.mem_append.1 hx with hx | hx
        · exact List.mem_append.2 (.inl hx)
        · exact List.mem_append.2 (.inr (List.mem_of_mem_take hx)))
      have htk : R.blocks.take (k + 1) = R.blocks.take k ++ [b] := by rw [take_succ_getD hlt2, hb]
      have hks : ∀ p ∈ List.map encS tb2, keyB (.int .i64) p.1 = true ∧ litOk p.2 := fun p hp => by
        obtain ⟨q, hq, rfl⟩ := List.mem_map.1 hp
        exact ⟨rfl, hs2.few q hq⟩
      refine ⟨hks, ?_⟩
      cases hf : tFind b.nmI tb2 with
      | none =>
        have hs3 := hs2.step (b := b) fun s h => by rw [hf] at h; cases h
        simp only [go_sem, mFind_S, hf, Option.map_none, Option.getD_none, Option.isSome_none, keyS, mPut_S, hw4]
        refine again_intro (k + 1, tPut b.nmI b.sh tb2) ⟨by simp only; omega, by simp only; rw [htk, ← List.append_assoc]; exact hs3⟩ (by simp only; omega) ?_
        simp only [go_sem]
        try rfl
      | some s =>
        by_cases hsb : s = b.sh
        · have hs3 := hs2.step (b := b) fun s' h => by rw [hf] at h; cases h; exact hsb
          simp only [go_sem, mFind_S, hf, Option.map_some, Option.getD_some, Option.isSome_some, eq_true hsb, keyS, mPut_S, hw4]
          refine again_intro (k + 1, tPut b.nmI b.sh tb2) ⟨by simp only; omega, by simp only; rw [htk, ← List.append_assoc]; exact hs3⟩ (by simp only; omega) ?_
          simp only [go_sem]
          try rfl
        · have hap : apB c.all = false := by
            cases hq : apB c.all
            · rfl
            · exfalso
              obtain ⟨x, hx, hxn, hxs⟩ := hs2.find hf
              have hxm : x ∈ c.all := hbm x (by
                rcases List.mem_append.1 hx with hx | hx
                · exact List.mem_append.2 (.inl hx)
                · exact List.mem_append.2 (.inr (by rw [htk]; exact List.mem_append.2 (.inl hx))))
              have hbm2 : b ∈ c.all := hbm b (List.mem_append.2 (.inr (by rw [htk]; simp)))
              have e1 := Clu.nmI_eq hok1 (Nat.le_refl _) hxm
              have e2 := Clu.nmI_eq hok1 (Nat.le_refl _) hbm2
              exact hsb (by rw [← hxs]; exact apB_mem hq hxm hbm2 (by rw [← e1, ← e2, hxn]))
          simp only [go_sem, mFind_S, hf, Option.map_some, Option.getD_some, Option.isSome_some, hsb, hap, Bool.and_false]
theorem ok6 (c : Clu) : VCalls gz 6 [c.enc false] none (fun y _ => y = .lit (.bool true)) := by
  refine VCalls.go (nt := 27) (keep := [0, 1, 2, 3, 4, 5, 6, 11, 21, 26]) (muts := []) (mvs := []) [(10, .tree true (.take 0 (.take 1 (.all (.cons 2 (.all (.cons 3 (.take 4 .done) .nil)) .nil)))))] f6_at rfl (by kernel_rfl) rfl (by kernel_rfl) rfl (fun i h => by cases h) rfl ?_
  intro hok
  simp only [go_sem] at hok
  simp only [Tryz.f6, Func.code, Option.getD_some]
  simp only [go_sem]
  refine call_lend ?_
  simp only [go_sem]
  refine callN.eq (ok14 c 1048576 ⟨by omega, by omega⟩) (by simp only [go_sem]) ?_
  simp only [go_sem]
  by_cases h1 : (c.sz : Int) ≤ 1048576
  rotate_left
  · have e : szR c.sz 1048576 = -1 := szR_lt (by omega)
    rw [e]
    simp only [go_sem]
    try trivial
  · have e : szR c.sz 1048576 = 1048576 - c.sz := szR_le h1
    have n1 : ¬ ((1048576 : Int) - c.sz < 0) := by omega
    rw [e]
    simp only [go_sem, n1]
    have hz : c.sz ≤ 1048576 := by omega
    refine call_lend ?_
    simp only [go_sem]
    refine callN.eq (ok16 c hz) (by simp only [go_sem]) ?_
    simp only [go_sem]
    refine call_lend ?_
    simp only [go_sem]
    refine callN.eq (ok25 c) (by simp only [go_sem]) ?_
    simp only [go_sem]
    refine call_lend ?_
    simp only [go_sem]
    refine callN.eq (ok16 c hz) (by simp only [go_sem]) ?_
    simp only [go_sem]
    refine call_lend ?_
    simp only [go_sem]
    refine callN.eq (ok26 c (Clu.hold_of hz)) (by simp only [go_sem]) ?_
    simp only [go_sem]
    simp only [go_sem, bne_self_eq_false]
    repeat' refine And.intro ?_ ?_
    all_goals
      refine call_lend ?_
      simp only [go_sem]
      refine callN.eq (ok16 c hz) (by simp only [go_sem]) ?_
      simp only [go_sem]
      refine call_lend ?_
      simp only [go_sem]
      refine callN.eq (ok18 c c) (by simp only [go_sem]) ?_
      simp only [go_sem]
end Go.VS
