/- VS: functions by the machine. -/
import Derived.Test.YtbpjfoaafgmeaaaGreatDoorVr
import Derived.Test.YtbpjfoaafgmeaaaGreatDoorVu
set_option linter.unusedSimpArgs false
set_option linter.unusedVariables false
open Go.Proofs
set_option maxRecDepth 20000
namespace Go.VS
theorem f15_at : gz.P.funcs[15]? = some Tryz.f15 := by
  have h : Tryz.prog.funcs[15]? = some Tryz.f15 := by kernel_rfl
  exact h
theorem f17_at : gz.P.funcs[17]? = some Tryz.f17 := by
  have h : Tryz.prog.funcs[17]? = some Tryz.f17 := by kernel_rfl
  exact h
theorem f74_at : gz.P.funcs[74]? = some Tryz.f74 := by
  have h : Tryz.prog.funcs[74]? = some Tryz.f74 := by kernel_rfl
  exact h
theorem f120_at : gz.P.funcs[120]? = some Tryz.f120 := by
  have h : Tryz.prog.funcs[120]? = some Tryz.f120 := by kernel_rfl
  exact h
theorem f73_at : gz.P.funcs[73]? = some Tryz.f73 := by
  have h : Tryz.prog.funcs[73]? = some Tryz.f73 := by kernel_rfl
  exact h
theorem ok120 (xs : List Msg) (f : Nat) (caps : List AVal) (p : Msg → Bool) (hc : shdAs caps = true) (hg : caps.all (fun x => !isAggA x) = true) (hf : ∀ x ∈ xs, VCalls gz f ((Msg.enc false) x :: caps) none (fun y _ => y = .lit (.bool (p x)))) :
    VCalls gz 120 [.lst false 20 (xs.map (Msg.enc false)), .fn f caps] none (fun y _ => y = .lit (.int .i64 (idxOf p xs))) := by
  refine VCalls.go (nt := 19) (keep := [0, 1, 4, 5, 7, 8, 9, 16]) (muts := []) (mvs := []) [] f120_at rfl (by kernel_rfl) rfl (by kernel_rfl) rfl (fun i h => by cases h) rfl ?_
  intro hok
  simp only [go_sem] at hok
  simp only [Tryz.f120, Func.code, Option.getD_some]
  simp only [go_sem]
  simp only [go_sem, shds_kill _ hc, shds_copy _ _ _ hc]
  intro hl
  refine vm_loopK (α := Nat) (fun i => [(0, .lst false 20 (xs.map (Msg.enc false))), (1, .fn f caps), (4, .lit (.int .i64 0)), (7, .lit (.int .i64 xs.length)), (8, .lit (.int .i64 i))]) (fun i => i ≤ xs.length ∧ ∀ x ∈ xs.take i, p x = false) (fun i => xs.length - i) 0 ?_ ⟨by omega, by simp⟩ (by kernel_rfl) (fun _ => rfl) ?_
  · simp only [go_sem]
    trivial
  · intro i hi _
    simp only [go_sem]
    first | refine branch_ndec (fun h => ?_) (fun h => ?_) | refine branch_dec (fun h => ?_) (fun h => ?_) | refine branch_nbool (fun h => ?_) (fun h => ?_) | refine branch_split (fun h => ?_) (fun h => ?_)
    · have hlt : i < xs.length := by omega
      simp only [go_sem, shds_kill _ hc, shds_copy _ _ _ hc]
      refine ⟨by omega, by omega, hlt, hg, ?_⟩
      refine call_lend ?_
      simp only [go_sem, shds_snap _ hc]
      refine callN.eq (hf _ (getD_mem hlt)) (by simp only [go_sem]) ?_
      simp only [go_sem, shds_kill _ hc, shds_copy _ _ _ hc]
      have hget : xs.getD i default = xs[i] := by simp [List.getD, List.getElem?_eq_getElem hlt]
      rw [hget]
      refine branch_split (fun h2 => ?_) (fun h2 => ?_)
      · simp only [go_sem, shds_kill _ hc, shds_copy _ _ _ hc]
        exact (idxOf_hit hi.2 hlt h2).symm
      · simp only [go_sem, shds_kill _ hc, shds_copy _ _ _ hc]
        simp (disch := omega) only [wrap64, wrapU64, wrapU32, wrapU8]
        refine again_intro (i + 1) ⟨by omega, ?_⟩ (by omega) ?_
        · intro x hx
          rw [take_succ_getD hlt, List.mem_append, hget] at hx
          rcases hx with hx | hx
          · exact hi.2 x hx
          · simp only [List.mem_singleton] at hx
            rw [hx]
            exact h2
        · simp only [go_sem]
          omega
    · simp only [go_sem]
      have hie : i = xs.length := by omega
      refine (idxOf_none ?_).symm
      have := hi.2
      rwa [hie, List.take_length] at this
theorem ok73 (xs : List Msg) (f : Nat) (caps : List AVal) (p : Msg → Bool) (hc : shdAs caps = true) (hg : caps.all (fun x => !isAggA x) = true) (hf : ∀ x ∈ xs, VCalls gz f ((Msg.enc false) x :: caps) none (fun y _ => y = .lit (.bool (p x)))) :
    VCalls gz 73 [.lst false 20 (xs.map (Msg.enc false)), .fn f caps] none (fun y _ => y = .lit (.bool (xs.any p))) := by
  refine VCalls.go (nt := 9) (keep := [0, 1, 4]) (muts := []) (mvs := []) [] f73_at rfl (by kernel_rfl) rfl (by kernel_rfl) rfl (fun i h => by cases h) rfl ?_
  intro hok
  simp only [go_sem] at hok
  simp only [Tryz.f73, Func.code, Option.getD_some]
  simp only [go_sem]
  simp only [go_sem, shds_kill _ hc, shds_copy _ _ _ hc]
  refine call_lend ?_
  simp only [go_sem, shds_snap _ hc]
  refine callN.eq (ok120 xs f caps p hc hg hf) (by simp only [go_sem]) ?_
  simp only [go_sem, shds_kill _ hc, shds_copy _ _ _ hc]
  simp only [idxOf_nonneg, Bool.decide_eq_true]
def rpB (rs : List Rpl) (i : Nat) : Bool := decide ((rs.getD i default).id = (i : Int)) && (decide ((rs.getD i default).n = (rs.length : Int)) && (rs.getD i default).ok)
def msB (n : Int) (m : Msg) : Bool := decide (0 ≤ m.dst ∧ m.dst ≤ n - 1)
/-- is a cluster right? -/
def Clu.ok (c : Clu) : Bool := srv c.reps.length && (decide (c.net.length ≤ 150) && ((List.range c.reps.length).all (rpB c.reps) && c.net.all (msB c.reps.length)))
theorem Clu.ok_srv {c : Clu} (h : srv c.reps.length = false) : c.ok = false := by simp only [Clu.ok, h, Bool.false_and]
theorem Clu.ok_long {c : Clu} (h : ¬ c.net.length ≤ 150) : c.ok = false := by simp only [Clu.ok, decide_eq_false h, Bool.false_and, Bool.and_false]
theorem Clu.ok_rp {c : Clu} {i : Nat} (hi : i < c.reps.length) (h : rpB c.reps i = false) : c.ok = false := by
  have : (List.range c.reps.length).all (rpB c.reps) = false := List.all_eq_false.2 ⟨i, List.mem_range.2 hi, by simp [h]⟩
  simp only [Clu.ok, this, Bool.false_and, Bool.and_false]
theorem Clu.ok_ms {c : Clu} {i : Nat} (hi : i < c.net.length) (h : msB c.reps.length (c.net.getD i default) = false) : c.ok = false := by
  have : c.net.all (msB c.reps.length) = false := List.all_eq_false.2 ⟨_, getD_mem hi, by rw [h]; decide⟩
  simp only [Clu.ok, this, Bool.and_false]
set_option maxHeartbeats 2000000 in
theorem ok15 (c : Clu) : VCalls gz 15 [c.enc false] none (fun y _ => y = .lit (.bool c.ok)) := by
  refine VCalls.go (nt := 67) (keep := [0, 1, 2, 3, 4, 5, 17, 20, 49, 54, 66]) (muts := []) (mvs := []) [] f15_at rfl (by kernel_rfl) rfl (by kernel_rfl) rfl (fun i h => by cases h) rfl ?_
  intro hok
  simp only [go_sem] at hok
  simp only [Tryz.f15, Func.code, Option.getD_some]
  simp only [go_sem]
  intro hm
  obtain ⟨N, hN⟩ : ∃ N, N = c.reps.length := ⟨_, rfl⟩
  refine call_lend ?_
  simp only [go_sem]
  refine callN.eq (ok37 (c.reps.length : Int)) (by simp only [go_sem]) ?_
  simp only [go_sem]
  cases h : srv (c.reps.length : Int)
  · simp only [go_sem, Clu.ok_srv h]
  have hn := srv_iff.1 h
  have hw : IntKind.i64.wrap ((c.reps.length : Int) - 1) = (c.reps.length : Int) - 1 := wrap64 (by omega) (by omega)
  simp only [go_sem]
  intro hm2
  by_cases h8 : 150 < (c.net.length : Int)
  · simp only [go_sem, eq_true h8, Clu.ok_long (c := c) (by omega)]
  simp only [go_sem, h8]
  refine vm_loopK (α := Nat) (fun i => [(1, .ptr true (c.enc false)), (2, .lit (.bool false)), (3, .lit (.int .i64 c.reps.length)), (4, .lit (.int .i64 i))]) (fun i => i ≤ c.reps.length ∧ ∀ j, j < i → rpB c.reps j = true) (fun i => c.reps.length - i) 0 ?_ ⟨by omega, fun j hj => by omega⟩ (by kernel_rfl) (fun _ => rfl) ?_
  · simp only [go_sem]
    try rfl
  · rintro i ⟨hi, he⟩ hk
    simp only [go_sem]
    first | refine branch_ndec (fun h6 => ?_) (fun h6 => ?_) | refine branch_dec (fun h6 => ?_) (fun h6 => ?_) | refine branch_nbool (fun h6 => ?_) (fun h6 => ?_) | refine branch_split (fun h6 => ?_) (fun h6 => ?_)
    · have hlt : i < c.reps.length := by omega
      have h0 : (0 : Int) ≤ (i : Int) := by omega
      have hw3 : IntKind.i64.wrap ((i : Int) + 1) = ((i + 1 : Nat) : Int) := by rw [wrap64 (by omega) (by omega)]; omega
      simp only [go_sem, h0, hlt, h6]
      by_cases g1 : (c.reps.getD i default).id = (i : Int)
      rotate_left
      · simp only [go_sem, g1, Clu.ok_rp hlt (by simp only [rpB, decide_eq_false g1, Bool.false_and])]
      simp only [go_sem, eq_true g1, h0, hlt, h6]
      by_cases g2 : (c.reps.getD i default).n = (c.reps.length : Int)
      rotate_left
      · simp only [go_sem, g2, Clu.ok_rp hlt (by simp only [rpB, decide_eq_false g2, Bool.false_and, Bool.and_false])]
      simp only [go_sem, eq_true g2, h0, hlt, h6]
      refine call_lend ?_
      simp only [go_sem]
      refine callN.eq (ok10 (c.reps.getD i default)) (by simp only [go_sem]) ?_
      simp only [go_sem]
      cases g3 : (c.reps.getD i default).ok
      · simp only [go_sem, Clu.ok_rp hlt (by simp only [rpB, g3, Bool.and_false])]
      simp only [go_sem, hw3]
      refine again_intro (i + 1) ⟨by omega, nx he (by simp only [rpB, g1, g2, g3, decide_true, Bool.and_self])⟩ (by omega) ?_
      simp only [go_sem]
      try rfl
    · have hrp : (List.range c.reps.length).all (rpB c.reps) = true := List.all_eq_true.2 fun x hx => he x (by have := List.mem_range.1 hx; omega)
      simp only [go_sem]
      refine vm_loopK (α := Nat) (fun i => [(1, .ptr true (c.enc false)), (2, .lit (.bool false)), (3, .lit (.int .i64 c.reps.length)), (5, .lit (.int .i64 i))]) (fun i => i ≤ c.net.length ∧ ∀ j, j < i → msB c.reps.length (c.net.getD j default) = true) (fun i => c.net.length - i) 0 ?_ ⟨by omega, fun j hj => by omega⟩ (by kernel_rfl) (fun _ => rfl) ?_
      · simp only [go_sem]
        try rfl
      · rintro k ⟨hk2, he2⟩ hkk
        simp only [go_sem]
        intro _
        first | refine branch_ndec (fun h14 => ?_) (fun h14 => ?_) | refine branch_dec (fun h14 => ?_) (fun h14 => ?_) | refine branch_nbool (fun h14 => ?_) (fun h14 => ?_) | refine branch_split (fun h14 => ?_) (fun h14 => ?_)
        · have hlt2 : k < c.net.length := by omega
          have h02 : (0 : Int) ≤ (k : Int) := by omega
          have hw4 : IntKind.i64.wrap ((k : Int) + 1) = ((k + 1 : Nat) : Int) := by rw [wrap64 (by omega) (by omega)]; omega
          simp only [go_sem, h02, hlt2, h14, hw]
          refine call_lend ?_
          simp only [go_sem]
          refine callN.eq (ok38 (c.net.getD k default).dst 0 ((c.reps.length : Int) - 1)) (by simp only [go_sem]) ?_
          simp only [go_sem]
          by_cases g1 : 0 ≤ (c.net.getD k default).dst ∧ (c.net.getD k default).dst ≤ (c.reps.length : Int) - 1
          rotate_left
          · simp only [go_sem, eq_false g1, Clu.ok_ms hlt2 (by rw [msB, decide_eq_false g1])]
          simp only [go_sem, eq_true g1, hw4]
          refine again_intro (k + 1) ⟨by omega, nx he2 (by rw [msB, decide_eq_true g1])⟩ (by omega) ?_
          simp only [go_sem]
          try rfl
        · have hms : c.net.all (msB c.reps.length) = true := List.all_eq_true.2 fun x hx => by
            obtain ⟨j, hj, rfl⟩ := List.mem_iff_getElem.1 hx
            rw [getElem_D hj]
            exact he2 j (by omega)
          have : c.ok = true := by simp only [Clu.ok, h, hrp, hms, decide_eq_true (show c.net.length ≤ 150 by omega), Bool.and_self]
          simp only [go_sem, this]
theorem ok74 (m : Msg) (n : Int) (hn : 0 ≤ n ∧ n ≤ 1048576) : VCalls gz 74 [m.enc false, .ptr false (.lit (.int .i64 n))] none (fun y _ => y = .lit (.bool (!msB n m))) := by
  refine VCalls.go (nt := 10) (keep := [0, 1, 2, 3]) (muts := []) (mvs := []) [] f74_at rfl (by kernel_rfl) rfl (by kernel_rfl) rfl (fun i h => by cases h) rfl ?_
  intro hok
  simp only [go_sem] at hok
  simp only [Tryz.f74, Func.code, Option.getD_some]
  simp only [go_sem]
  have hw : IntKind.i64.wrap (n - 1) = n - 1 := wrap64 (by omega) (by omega)
  simp only [go_sem, hw]
  refine call_lend ?_
  simp only [go_sem]
  refine callN.eq (ok52 m.dst 0 (n - 1)) (by simp only [go_sem]) ?_
  simp only [go_sem]
  rw [msB, decide_not]
def Clu.hold (c : Clu) : Prop := ∀ i, i < c.reps.length → (c.reps.getD i default).hold
set_option maxHeartbeats 2000000 in
theorem ok17 (c : Clu) (hc : c.hold) : VCalls gz 17 [c.enc false] none (fun y _ => y = .lit (.bool c.ok)) := by
  refine VCalls.go (nt := 48) (keep := [0, 1, 2, 3, 4, 5, 23, 25, 26, 27, 28, 46]) (muts := []) (mvs := []) [] f17_at rfl (by kernel_rfl) rfl (by kernel_rfl) rfl (fun i h => by cases h) rfl ?_
  intro hok
  simp only [go_sem] at hok
  simp only [Tryz.f17, Func.code, Option.getD_some]
  simp only [go_sem]
  intro hm
  refine call_lend ?_
  simp only [go_sem]
  refine callN.eq (ok51 (c.reps.length : Int)) (by simp only [go_sem]) ?_
  simp only [go_sem]
  cases h : srv (c.reps.length : Int)
  · simp only [go_sem, qrm_neg, h, Clu.ok_srv h]
  have hn := srv_iff.1 h
  simp only [go_sem, qrm_neg, h]
  intro hm2
  by_cases h8 : 150 < (c.net.length : Int)
  · simp only [go_sem, eq_true h8, Clu.ok_long (c := c) (by omega)]
  simp only [go_sem, h8]
  have e1 : (!c.net.any (fun m => !msB c.reps.length m)) = c.net.all (msB c.reps.length) := by rw [List.all_eq_not_any_not]
  refine call_lend ?_
  simp only [go_sem]
  refine callN.eq (ok73 c.net 74 [_] (fun m => !msB c.reps.length m) rfl rfl (fun x _ => ok74 x c.reps.length (by omega))) (by simp only [go_sem]) ?_
  simp only [go_sem]
  cases hv : c.net.any (fun m => !msB c.reps.length m)
  rotate_left
  · have : c.ok = false := by simp only [Clu.ok, ← e1, hv, Bool.not_true, Bool.and_false]
    simp only [go_sem, this]
  simp only [go_sem]
  intro hm3
  refine vm_loopK (α := Nat) (fun i => [(1, .ptr true (c.enc false)), (2, .lit (.bool false)), (3, .ptr true (.lit (.int .i64 c.reps.length))), (25, .lst false 14 (c.reps.map (Rpl.enc false))), (26, .lit (.int .i64 c.reps.length)), (27, .lit (.int .i64 i))]) (fun i => i ≤ c.reps.length ∧ ∀ j, j < i → rpB c.reps j = true) (fun i => c.reps.length - i) 0 ?_ ⟨by omega, fun j hj => by omega⟩ (by kernel_rfl) (fun _ => rfl) ?_
  · simp only [go_sem]
    try rfl
  · rintro i ⟨hi, he⟩ hk
    simp only [go_sem]
    first | refine branch_ndec (fun h6 => ?_) (fun h6 => ?_) | refine branch_dec (fun h6 => ?_) (fun h6 => ?_) | refine branch_nbool (fun h6 => ?_) (fun h6 => ?_) | refine branch_split (fun h6 => ?_) (fun h6 => ?_)
    · have hlt : i < c.reps.length := by omega
      have h0 : (0 : Int) ≤ (i : Int) := by omega
      have hw3 : IntKind.i64.wrap ((i : Int) + 1) = ((i + 1 : Nat) : Int) := by rw [wrap64 (by omega) (by omega)]; omega
      simp only [go_sem, h0, hlt, h6]
      by_cases g1 : (c.reps.getD i default).id = (i : Int)
      rotate_left
      · simp only [go_sem, g1, Clu.ok_rp hlt (by simp only [rpB, decide_eq_false g1, Bool.false_and])]
      simp only [go_sem, eq_true g1, h0, hlt, h6]
      by_cases g2 : (c.reps.getD i default).n = (c.reps.length : Int)
      rotate_left
      · simp only [go_sem, g2, Clu.ok_rp hlt (by simp only [rpB, decide_eq_false g2, Bool.false_and, Bool.and_false])]
      simp only [go_sem, eq_true g2, h0, hlt, h6]
      refine call_lend ?_
      simp only [go_sem]
      refine callN.eq (ok12 (c.reps.getD i default) (hc i hlt)) (by simp only [go_sem]) ?_
      simp only [go_sem]
      cases g3 : (c.reps.getD i default).ok
      · simp only [go_sem, Rpl.law, g3, Clu.ok_rp hlt (by simp only [rpB, g3, Bool.and_false])]
      simp only [go_sem, Rpl.law, g3, hw3]
      refine again_intro (i + 1) ⟨by omega, nx he (by simp only [rpB, g1, g2, g3, decide_true, Bool.and_self])⟩ (by omega) ?_
      simp only [go_sem]
      try rfl
    · have hrp : (List.range c.reps.length).all (rpB c.reps) = true := List.all_eq_true.2 fun x hx => he x (by have := List.mem_range.1 hx; omega)
      have : c.ok = true := by simp only [Clu.ok, h, hrp, ← e1, hv, decide_eq_true (show c.net.length ≤ 150 by omega), Bool.and_self, Bool.not_false]
      simp only [go_sem, this]
end Go.VS

set_option linter.unusedSimpArgs false
set_option linter.unusedVariables false
open Go.Proofs
set_option maxRecDepth 20000
namespace Go.VS
theorem f4_at : gz.P.funcs[4]? = some Tryz.f4 := by
  have h : Tryz.prog.funcs[4]? = some Tryz.f4 := by kernel_rfl
  exact h
theorem Clu.hold_of {c : Clu} (h : c.sz ≤ 1048576) : c.hold := fun i hi => by
  have h2 : szL Rpl.sz c.reps + szL Msg.sz c.net ≤ 1048576 := h
  have := getD_sz (f := Rpl.sz) hi
  exact Rpl.hold_of (by omega)
theorem ok4 (c : Clu) : VCalls gz 4 [c.enc false] none (fun y _ => y = .lit (.bool true)) := by
  refine VCalls.go (nt := 27) (keep := [0, 1, 2, 3, 4, 5, 6, 11, 21, 26]) (muts := []) (mvs := []) [(10, .tree true (.take 0 (.take 1 (.all (.cons 2 (.all (.cons 3 (.take 4 .done) .nil)) .nil)))))] f4_at rfl (by kernel_rfl) rfl (by kernel_rfl) rfl (fun i h => by cases h) rfl ?_
  intro hok
  simp only [go_sem] at hok
  simp only [Tryz.f4, Func.code, Option.getD_some]
  simp only [go_sem]
  refine call_lend ?_
  simp only [go_sem]
  refine callN.eq (ok14 c 1048576 ⟨by omega, by omega⟩) (by simp only [go_sem]) ?_
  simp only [go_sem]
  by_cases h1 : (c.sz : Int) ≤ 1048576
  rotate_left
  · have e : szR c.sz 1048576 = -1 := szR_lt (by omega)
    rw [e]
    simp only [go_sem]
    try trivial
  · have e : szR c.sz 1048576 = 1048576 - c.sz := szR_le h1
    have n1 : ¬ ((1048576 : Int) - c.sz < 0) := by omega
    rw [e]
    simp only [go_sem, n1]
    have hz : c.sz ≤ 1048576 := by omega
    refine call_lend ?_
    simp only [go_sem]
    refine callN.eq (ok16 c hz) (by simp only [go_sem]) ?_
    simp only [go_sem]
    refine call_lend ?_
    simp only [go_sem]
    refine callN.eq (ok15 c) (by simp only [go_sem]) ?_
    simp only [go_sem]
    refine call_lend ?_
    simp only [go_sem]
    refine callN.eq (ok16 c hz) (by simp only [go_sem]) ?_
    simp only [go_sem]
    refine call_lend ?_
    simp only [go_sem]
    refine callN.eq (ok17 c (Clu.hold_of hz)) (by simp only [go_sem]) ?_
    simp only [go_sem]
    simp only [go_sem, bne_self_eq_false]
    repeat' refine And.intro ?_ ?_
    all_goals
      refine call_lend ?_
      simp only [go_sem]
      refine callN.eq (ok16 c hz) (by simp only [go_sem]) ?_
      simp only [go_sem]
      refine call_lend ?_
      simp only [go_sem]
      refine callN.eq (ok18 c c) (by simp only [go_sem]) ?_
      simp only [go_sem]
end Go.VS
