/- VS: functions by the machine. -/
import Derived.Test.YtbpjfoaafgmeaaaGreatDoorVv
set_option linter.unusedSimpArgs false
set_option linter.unusedVariables false
open Go.Proofs
set_option maxRecDepth 20000
namespace Go.VS
theorem f151_at : gz.P.funcs[151]? = some Tryz.f151 := by
  have h : Tryz.prog.funcs[151]? = some Tryz.f151 := by kernel_rfl
  exact h
theorem f131_at : gz.P.funcs[131]? = some Tryz.f131 := by
  have h : Tryz.prog.funcs[131]? = some Tryz.f131 := by kernel_rfl
  exact h
theorem f90_at : gz.P.funcs[90]? = some Tryz.f90 := by
  have h : Tryz.prog.funcs[90]? = some Tryz.f90 := by kernel_rfl
  exact h
theorem f27_at : gz.P.funcs[27]? = some Tryz.f27 := by
  have h : Tryz.prog.funcs[27]? = some Tryz.f27 := by kernel_rfl
  exact h
theorem f28_at : gz.P.funcs[28]? = some Tryz.f28 := by
  have h : Tryz.prog.funcs[28]? = some Tryz.f28 := by kernel_rfl
  exact h
theorem list_ext_D {α : Type} [Inhabited α] {xs ys : List α} (hl : xs.length = ys.length) (h : ∀ j, j < xs.length → xs.getD j default = ys.getD j default) : xs = ys :=
  List.ext_getElem hl fun j h1 h2 => by rw [getElem_D h1, getElem_D h2]; exact h j h1
theorem ok151 (a b : List Int) : VCalls gz 151 [.lst false 1 (a.map intA), .lst false 1 (b.map intA)] none (fun y _ => y = .lit (.bool (decide (a = b)))) := by
  refine VCalls.go (nt := 26) (keep := [0, 1, 4, 5, 10, 14, 25]) (muts := []) (mvs := []) [(6, .chain true [0, 1, 2, 3, 4, 5, 6, 7, 8])] f151_at rfl (by kernel_rfl) rfl (by kernel_rfl) rfl (fun i h => by cases h) rfl ?_
  intro hok
  simp only [go_sem] at hok
  simp only [Tryz.f151, Func.code, Option.getD_some]
  simp only [go_sem]
  intro hm1 hm2
  by_cases h1 : (a.length : Int) = (b.length : Int)
  rotate_left
  · have : ¬ a = b := fun h => h1 (by rw [h])
    simp only [go_sem, h1, this]
  simp only [go_sem, eq_true h1]
  refine vm_loopK (α := Nat) (fun i => [(0, .lst false 1 (a.map intA)), (1, .lst false 1 (b.map intA)), (5, .lit (.int .i64 i))]) (fun i => i ≤ a.length ∧ ∀ j, j < i → a.getD j default = b.getD j default) (fun i => a.length - i) 0 ?_ ⟨by omega, fun j hj => by omega⟩ (by kernel_rfl) (fun _ => rfl) ?_
  · simp only [go_sem]
    try rfl
  · rintro i ⟨hi, he⟩ hk
    simp only [go_sem]
    intro _
    first | refine branch_ndec (fun h6 => ?_) (fun h6 => ?_) | refine branch_dec (fun h6 => ?_) (fun h6 => ?_) | refine branch_nbool (fun h6 => ?_) (fun h6 => ?_) | refine branch_split (fun h6 => ?_) (fun h6 => ?_)
    rotate_left
    · have : a = b := list_ext_D (by omega) fun j hj => he j (by omega)
      simp only [go_sem, eq_true this]
    have hlt : i < a.length := by omega
    have hlt2 : i < b.length := by omega
    have h6b : (i : Int) < (b.length : Int) := by omega
    have h0 : (0 : Int) ≤ (i : Int) := by omega
    have hw3 : IntKind.i64.wrap ((i : Int) + 1) = ((i + 1 : Nat) : Int) := by rw [wrap64 (by omega) (by omega)]; omega
    simp only [go_sem, h0, hlt, h6, hlt2, h6b]
    by_cases h7 : a.getD i default = b.getD i default
    · simp only [go_sem, eq_true h7, hw3]
      refine again_intro (i + 1) ⟨by omega, nx he h7⟩ (by omega) ?_
      simp only [go_sem]
      try rfl
    · have : ¬ a = b := fun h => h7 (by rw [h])
      simp only [go_sem, h7, this]
def begB (a b : List Int) : Bool := decide (b.length ≤ a.length) && decide (a.take b.length = b)
theorem ok131 (a b : List Int) : VCalls gz 131 [.lst false 1 (a.map intA), .lst false 1 (b.map intA)] none (fun y _ => y = .lit (.bool (begB a b))) := by
  refine VCalls.go (nt := 18) (keep := [0, 1, 4]) (muts := []) (mvs := []) [] f131_at rfl (by kernel_rfl) rfl (by kernel_rfl) rfl (fun i h => by cases h) rfl ?_
  intro hok
  simp only [go_sem] at hok
  simp only [Tryz.f131, Func.code, Option.getD_some]
  simp only [go_sem]
  intro hm1 hm2
  by_cases h1 : (b.length : Int) ≤ (a.length : Int)
  rotate_left
  · have : begB a b = false := by rw [begB, decide_eq_false (show ¬ b.length ≤ a.length by omega), Bool.false_and]
    simp only [go_sem, h1, this]
  have h2 : b.length ≤ a.length := by omega
  have h0 : (0 : Int) ≤ (b.length : Int) := by omega
  simp only [go_sem, eq_true h1, h0, h1, h2, Nat.sub_zero]
  intro _
  refine call_lend ?_
  simp only [go_sem]
  refine callN.eq (ok151 (a.take b.length) b) (by simp only [go_sem]) ?_
  simp only [go_sem]
  rw [begB, decide_eq_true h2, Bool.true_and]
def Clu.dn (c : Clu) (i : Nat) : List Int := (c.reps.getD i default).done
def Clu.agS (c : Clu) (i k : Nat) : Bool := begB (c.dn i) (c.dn k) || begB (c.dn k) (c.dn i)
def Clu.agr (c : Clu) : Bool := (List.range c.reps.length).all fun i => (List.range i).all (c.agS i)
theorem Clu.agr_bad {c : Clu} {i k : Nat} (hi : i < c.reps.length) (hk : k < i) (h : c.agS i k = false) : c.agr = false :=
  List.all_eq_false.2 ⟨i, List.mem_range.2 hi, by
    have : (List.range i).all (c.agS i) = false := List.all_eq_false.2 ⟨k, List.mem_range.2 hk, by rw [h]; decide⟩
    rw [this]
    decide⟩
theorem Clu.agS_eq {c : Clu} {i k : Nat} {b : Bool} (h : begB (c.dn i) (c.dn k) = b) : c.agS i k = (b || begB (c.dn k) (c.dn i)) := by rw [Clu.agS, h]
set_option maxHeartbeats 2000000 in
theorem ok90 (c : Clu) : VCalls gz 90 [c.enc false] none (fun y _ => y = .lit (.bool c.agr)) := by
  refine VCalls.go (nt := 41) (keep := [0, 1, 2, 3, 4, 5, 6, 11, 16, 40]) (muts := []) (mvs := []) [] f90_at rfl (by kernel_rfl) rfl (by kernel_rfl) rfl (fun i h => by cases h) rfl ?_
  intro hok
  simp only [go_sem] at hok
  simp only [Tryz.f90, Func.code, Option.getD_some]
  simp only [go_sem]
  refine vm_loopK (α := Nat) (fun i => [(1, .ptr true (c.enc false)), (2, .lit (.bool false)), (3, .lit (.int .i64 i))]) (fun i => i ≤ c.reps.length ∧ ∀ j, j < i → (List.range j).all (c.agS j) = true) (fun i => c.reps.length - i) 0 ?_ ⟨by omega, fun j hj => by omega⟩ (by kernel_rfl) (fun _ => rfl) ?_
  · simp only [go_sem]
    try rfl
  · rintro i ⟨hi, he⟩ hk
    simp only [go_sem]
    intro _
    first | refine branch_ndec (fun h6 => ?_) (fun h6 => ?_) | refine branch_dec (fun h6 => ?_) (fun h6 => ?_) | refine branch_nbool (fun h6 => ?_) (fun h6 => ?_) | refine branch_split (fun h6 => ?_) (fun h6 => ?_)
    rotate_left
    · have : c.agr = true := List.all_eq_true.2 fun x hx => he x (by have := List.mem_range.1 hx; omega)
      simp only [go_sem, this]
    have hlt : i < c.reps.length := by omega
    have h0 : (0 : Int) ≤ (i : Int) := by omega
    have hw3 : IntKind.i64.wrap ((i : Int) + 1) = ((i + 1 : Nat) : Int) := by rw [wrap64 (by omega) (by omega)]; omega
    simp only [go_sem]
    refine vm_loopK (α := Nat) (fun k => [(1, .ptr true (c.enc false)), (2, .lit (.bool false)), (3, .lit (.int .i64 i)), (4, .lit (.int .i64 k))]) (fun k => k ≤ i ∧ ∀ j, j < k → c.agS i j = true) (fun k => i - k) 0 ?_ ⟨by omega, fun j hj => by omega⟩ (by kernel_rfl) (fun _ => rfl) ?_
    · simp only [go_sem]
      try rfl
    · rintro k ⟨hk2, he2⟩ hkk
      simp only [go_sem]
      first | refine branch_ndec (fun h8 => ?_) (fun h8 => ?_) | refine branch_dec (fun h8 => ?_) (fun h8 => ?_) | refine branch_nbool (fun h8 => ?_) (fun h8 => ?_) | refine branch_split (fun h8 => ?_) (fun h8 => ?_)
      rotate_left
      · simp only [go_sem, hw3]
        refine again_intro (i + 1) ⟨by omega, nx he (List.all_eq_true.2 fun x hx => he2 x (by have := List.mem_range.1 hx; omega))⟩ (by omega) ?_
        simp only [go_sem]
        try rfl
      have hlt2 : k < c.reps.length := by omega
      have h02 : (0 : Int) ≤ (k : Int) := by omega
      have h8b : (k : Int) < (c.reps.length : Int) := by omega
      have hw4 : IntKind.i64.wrap ((k : Int) + 1) = ((k + 1 : Nat) : Int) := by rw [wrap64 (by omega) (by omega)]; omega
      simp only [go_sem, h0, hlt, h6, h02, hlt2, h8b]
      refine call_lend ?_
      simp only [go_sem]
      refine callN.eq (ok131 (c.dn i) (c.dn k)) (by simp only [go_sem]) ?_
      simp only [go_sem]
      cases hb : begB (c.dn i) (c.dn k)
      rotate_left
      · simp only [go_sem, hw4]
        refine again_intro (k + 1) ⟨by omega, nx he2 (by rw [Clu.agS_eq hb, Bool.true_or])⟩ (by omega) ?_
        simp only [go_sem]
        try rfl
      simp only [go_sem]
      refine call_lend ?_
      simp only [go_sem]
      refine callN.eq (ok131 (c.dn k) (c.dn i)) (by simp only [go_sem]) ?_
      simp only [go_sem]
      cases hb2 : begB (c.dn k) (c.dn i)
      · simp only [go_sem, Clu.agr_bad hlt (show k < i by omega) (by rw [Clu.agS_eq hb, hb2, Bool.false_or])]
      · simp only [go_sem, hw4]
        refine again_intro (k + 1) ⟨by omega, nx he2 (by rw [Clu.agS_eq hb, hb2, Bool.false_or])⟩ (by omega) ?_
        simp only [go_sem]
        try rfl
theorem ok27 (c : Clu) : VCalls gz 27 [c.enc false] none (fun y _ => y = .lit (.bool (c.ok && c.agr))) := by
  refine VCalls.go (nt := 9) (keep := [0, 1, 2]) (muts := []) (mvs := []) [] f27_at rfl (by kernel_rfl) rfl (by kernel_rfl) rfl (fun i h => by cases h) rfl ?_
  intro hok
  simp only [go_sem] at hok
  simp only [Tryz.f27, Func.code, Option.getD_some]
  simp only [go_sem]
  refine call_lend ?_
  simp only [go_sem]
  refine callN.eq (ok15 c) (by simp only [go_sem]) ?_
  simp only [go_sem]
  cases h : c.ok
  · simp only [go_sem]
    try rfl
  · simp only [go_sem]
    refine call_lend ?_
    simp only [go_sem]
    refine callN.eq (ok90 c) (by simp only [go_sem]) ?_
    simp only [go_sem]
    try rfl
def agrB (a b : List Int) : Bool := (List.range (min a.length b.length)).all fun k => decide (a.getD k default = b.getD k default)
def Clu.agI (c : Clu) (i : Nat) : Bool := (List.range c.reps.length).all fun j => agrB (c.dn i) (c.dn j)
def Clu.agrI (c : Clu) : Bool := (List.range c.reps.length).all c.agI
theorem begB_iff {a b : List Int} : begB a b = true ↔ b.length ≤ a.length ∧ ∀ k, k < b.length → a.getD k default = b.getD k default := by
  simp only [begB, Bool.and_eq_true, decide_eq_true_eq]
  constructor
  · rintro ⟨h1, h2⟩
    refine ⟨h1, fun k hk => ?_⟩
    have h3 : (a.take b.length).getD k default = b.getD k default := by rw [h2]
    rw [← h3]
    simp [List.getD, List.getElem?_take, hk]
  · rintro ⟨h1, h2⟩
    refine ⟨h1, list_ext_D (by rw [List.length_take]; omega) fun j hj => ?_⟩
    rw [List.length_take] at hj
    rw [← h2 j (by omega)]
    simp [List.getD, List.getElem?_take, show j < b.length by omega]
theorem agrB_iff {a b : List Int} : agrB a b = true ↔ ∀ k, k < a.length → k < b.length → a.getD k default = b.getD k default := by
  simp only [agrB, List.all_eq_true, List.mem_range, decide_eq_true_eq]
  exact ⟨fun h k h1 h2 => h k (by omega), fun h k hk => h k (by omega) (by omega)⟩
theorem agr_beg {a b : List Int} : (begB a b || begB b a) = agrB a b := by
  rw [Bool.eq_iff_iff, Bool.or_eq_true, begB_iff, begB_iff, agrB_iff]
  constructor
  · rintro (⟨h1, h2⟩ | ⟨h1, h2⟩) k h3 h4
    · exact h2 k h4
    · exact (h2 k h3).symm
  · intro h
    by_cases hl : b.length ≤ a.length
    · exact .inl ⟨hl, fun k hk => h k (by omega) hk⟩
    · exact .inr ⟨by omega, fun k hk => (h k hk (by omega)).symm⟩
theorem Clu.agr_eq (c : Clu) : c.agrI = c.agr := by
  rw [Bool.eq_iff_iff]
  simp only [Clu.agrI, Clu.agI, Clu.agr, List.all_eq_true, List.mem_range]
  constructor
  · intro h i hi k hk
    rw [Clu.agS, agr_beg]
    exact h i hi k (by omega)
  · intro h i hi j hj
    rcases Nat.lt_trichotomy i j with h1 | h1 | h1
    · have := h j hj i h1
      rw [Clu.agS, agr_beg, agrB_iff] at this
      exact agrB_iff.2 fun k h2 h3 => (this k h3 h2).symm
    · subst h1
      exact agrB_iff.2 fun k _ _ => rfl
    · have := h i hi j h1
      rwa [Clu.agS, agr_beg] at this
theorem agrB_bad {a b : List Int} {k : Nat} (h1 : k < a.length) (h2 : k < b.length) (h : ¬ a.getD k default = b.getD k default) : agrB a b = false := by
  cases hq : agrB a b
  · rfl
  · exact absurd (agrB_iff.1 hq k h1 h2) h
theorem Clu.agI_bad {c : Clu} {i j : Nat} (hi : i < c.reps.length) (hj : j < c.reps.length) (h : agrB (c.dn i) (c.dn j) = false) : c.agrI = false :=
  List.all_eq_false.2 ⟨i, List.mem_range.2 hi, by
    have : c.agI i = false := List.all_eq_false.2 ⟨j, List.mem_range.2 hj, by rw [h]; decide⟩
    rw [this]
    decide⟩
end Go.VS

set_option linter.unusedSimpArgs false
set_option linter.unusedVariables false
open Go.Proofs
set_option maxRecDepth 20000
namespace Go.VS
theorem f7_at : gz.P.funcs[7]? = some Tryz.f7 := by
  have h : Tryz.prog.funcs[7]? = some Tryz.f7 := by kernel_rfl
  exact h
set_option maxHeartbeats 4000000 in
theorem ok28 (c : Clu) (hc : c.hold) : VCalls gz 28 [c.enc false] none (fun y _ => y = .lit (.bool (c.ok && c.agrI))) := by
  refine VCalls.go (nt := 49) (keep := [0, 1, 2, 4, 6, 7, 10, 12, 13, 14, 15, 19, 20, 21, 22, 31, 32, 33, 45]) (muts := []) (mvs := []) [(12, .chain true [0, 1, 2, 3, 4, 5, 6, 7, 8, 9, 10])] f28_at rfl (by kernel_rfl) rfl (by kernel_rfl) rfl (fun i h => by cases h) rfl ?_
  intro hok
  simp only [go_sem] at hok
  simp only [Tryz.f28, Func.code, Option.getD_some]
  simp only [go_sem]
  refine call_lend ?_
  simp only [go_sem]
  refine callN.eq (ok17 c hc) (by simp only [go_sem]) ?_
  simp only [go_sem]
  cases hok1 : c.ok
  · simp only [go_sem]
    try rfl
  simp only [go_sem]
  intro hm
  refine vm_loopK (α := Nat) (fun i => [(1, .ptr true (c.enc false)), (2, .lit (.bool false)), (12, .lst false 14 (c.reps.map (Rpl.enc false))), (13, .lit (.int .i64 c.reps.length)), (14, .lit (.int .i64 i))]) (fun i => i ≤ c.reps.length ∧ ∀ j, j < i → c.agI j = true) (fun i => c.reps.length - i) 0 ?_ ⟨by omega, fun j hj => by omega⟩ (by kernel_rfl) (fun _ => rfl) ?_
  · simp only [go_sem]
    try rfl
  · rintro i ⟨hi, he⟩ hk
    simp only [go_sem]
    first | refine branch_ndec (fun h6 => ?_) (fun h6 => ?_) | refine branch_dec (fun h6 => ?_) (fun h6 => ?_) | refine branch_nbool (fun h6 => ?_) (fun h6 => ?_) | refine branch_split (fun h6 => ?_) (fun h6 => ?_)
    rotate_left
    · have : c.agrI = true := List.all_eq_true.2 fun x hx => he x (by have := List.mem_range.1 hx; omega)
      simp only [go_sem, this, Bool.and_self]
    have hlt : i < c.reps.length := by omega
    have h0 : (0 : Int) ≤ (i : Int) := by omega
    have hw3 : IntKind.i64.wrap ((i : Int) + 1) = ((i + 1 : Nat) : Int) := by rw [wrap64 (by omega) (by omega)]; omega
    simp only [go_sem, h0, hlt, h6]
    intro _
    refine vm_loopK (α := Nat) (fun k => [(1, .ptr true (c.enc false)), (2, .lit (.bool false)), (12, .lst false 14 (c.reps.map (Rpl.enc false))), (13, .lit (.int .i64 c.reps.length)), (14, .lit (.int .i64 i)), (4, .ptr true ((c.reps.getD i default).enc false)), (19, .lst false 14 (c.reps.map (Rpl.enc false))), (20, .lit (.int .i64 c.reps.length)), (21, .lit (.int .i64 k))]) (fun k => k ≤ c.reps.length ∧ ∀ j, j < k → agrB (c.dn i) (c.dn j) = true) (fun k => c.reps.length - k) 0 ?_ ⟨by omega, fun j hj => by omega⟩ (by kernel_rfl) (fun _ => rfl) ?_
    · simp only [go_sem]
      try rfl
    · rintro k ⟨hk2, he2⟩ hkk
      simp only [go_sem]
      first | refine branch_ndec (fun h8 => ?_) (fun h8 => ?_) | refine branch_dec (fun h8 => ?_) (fun h8 => ?_) | refine branch_nbool (fun h8 => ?_) (fun h8 => ?_) | refine branch_split (fun h8 => ?_) (fun h8 => ?_)
      rotate_left
      · have : c.agI i = true := List.all_eq_true.2 fun x hx => he2 x (by have := List.mem_range.1 hx; omega)
        simp only [go_sem, hw3]
        refine again_intro (i + 1) ⟨by omega, nx he this⟩ (by omega) ?_
        simp only [go_sem]
        try rfl
      have hlt2 : k < c.reps.length := by omega
      have h02 : (0 : Int) ≤ (k : Int) := by omega
      have hw4 : IntKind.i64.wrap ((k : Int) + 1) = ((k + 1 : Nat) : Int) := by rw [wrap64 (by omega) (by omega)]; omega
      simp only [go_sem, h02, hlt2, h8]
      intro _ _
      have hmin : (if ((c.reps.getD k default).done.length : Int) < ((c.reps.getD i default).done.length : Int) then ((c.reps.getD k default).done.length : Int) else ((c.reps.getD i default).done.length : Int)) = ((min (c.dn i).length (c.dn k).length : Nat) : Int) := by
        unfold Clu.dn
        split <;> omega
      obtain ⟨mn, hmn⟩ : ∃ mn, mn = min (c.dn i).length (c.dn k).length := ⟨_, rfl⟩
      have hdi : (c.dn i).length = (c.reps.getD i default).done.length := rfl
      have hdk : (c.dn k).length = (c.reps.getD k default).done.length := rfl
      simp only [go_sem, hmin]
      rw [← hmn]
      refine vm_loopK (α := Nat) (fun m => [(1, .ptr true (c.enc false)), (2, .lit (.bool false)), (12, .lst false 14 (c.reps.map (Rpl.enc false))), (13, .lit (.int .i64 c.reps.length)), (14, .lit (.int .i64 i)), (4, .ptr true ((c.reps.getD i default).enc false)), (19, .lst false 14 (c.reps.map (Rpl.enc false))), (20, .lit (.int .i64 c.reps.length)), (21, .lit (.int .i64 k)), (6, .ptr true ((c.reps.getD k default).enc false)), (31, .lit (.int .i64 mn)), (32, .lit (.int .i64 m))]) (fun m => m ≤ mn ∧ ∀ j, j < m → (c.dn i).getD j default = (c.dn k).getD j default) (fun m => mn - m) 0 ?_ ⟨by omega, fun j hj => by omega⟩ (by kernel_rfl) (fun _ => rfl) ?_
      · simp only [go_sem]
        try rfl
      · rintro m ⟨hm2, he3⟩ hkm
        simp only [go_sem]
        first | refine branch_ndec (fun h10 => ?_) (fun h10 => ?_) | refine branch_dec (fun h10 => ?_) (fun h10 => ?_) | refine branch_nbool (fun h10 => ?_) (fun h10 => ?_) | refine branch_split (fun h10 => ?_) (fun h10 => ?_)
        rotate_left
        · have : agrB (c.dn i) (c.dn k) = true := agrB_iff.2 fun j h1 h2 => he3 j (by omega)
          simp only [go_sem, hw4]
          refine again_intro (k + 1) ⟨by omega, nx he2 this⟩ (by omega) ?_
          simp only [go_sem]
          try rfl
        have hl1 : m < (c.reps.getD i default).done.length := by omega
        have hl2 : m < (c.reps.getD k default).done.length := by omega
        have hl1b : (m : Int) < ((c.reps.getD i default).done.length : Int) := by omega
        have hl2b : (m : Int) < ((c.reps.getD k default).done.length : Int) := by omega
        have h03 : (0 : Int) ≤ (m : Int) := by omega
        have hw5 : IntKind.i64.wrap ((m : Int) + 1) = ((m + 1 : Nat) : Int) := by rw [wrap64 (by omega) (by omega)]; omega
        simp only [go_sem, h03, hl1, hl2, hl1b, hl2b]
        by_cases h11 : (c.reps.getD i default).done.getD m default = (c.reps.getD k default).done.getD m default
        · simp only [go_sem, eq_true h11, hw5]
          refine again_intro (m + 1) ⟨by omega, nx he3 h11⟩ (by omega) ?_
          simp only [go_sem]
          try rfl
        · simp only [go_sem, h11, Clu.agI_bad hlt hlt2 (agrB_bad (a := c.dn i) (b := c.dn k) hl1 hl2 h11), Bool.and_false]
theorem ok7 (c : Clu) : VCalls gz 7 [c.enc false] none (fun y _ => y = .lit (.bool true)) := by
  refine VCalls.go (nt := 27) (keep := [0, 1, 2, 3, 4, 5, 6, 11, 21, 26]) (muts := []) (mvs := []) [(10, .tree true (.take 0 (.take 1 (.all (.cons 2 (.all (.cons 3 (.take 4 .done) .nil)) .nil)))))] f7_at rfl (by kernel_rfl) rfl (by kernel_rfl) rfl (fun i h => by cases h) rfl ?_
  intro hok
  simp only [go_sem] at hok
  simp only [Tryz.f7, Func.code, Option.getD_some]
  simp only [go_sem]
  refine call_lend ?_
  simp only [go_sem]
  refine callN.eq (ok14 c 1048576 ⟨by omega, by omega⟩) (by simp only [go_sem]) ?_
  simp only [go_sem]
  by_cases h1 : (c.sz : Int) ≤ 1048576
  rotate_left
  · have e : szR c.sz 1048576 = -1 := szR_lt (by omega)
    rw [e]
    simp only [go_sem]
    try trivial
  · have e : szR c.sz 1048576 = 1048576 - c.sz := szR_le h1
    have n1 : ¬ ((1048576 : Int) - c.sz < 0) := by omega
    rw [e]
    simp only [go_sem, n1]
    have hz : c.sz ≤ 1048576 := by omega
    refine call_lend ?_
    simp only [go_sem]
    refine callN.eq (ok16 c hz) (by simp only [go_sem]) ?_
    simp only [go_sem]
    refine call_lend ?_
    simp only [go_sem]
    refine callN.eq (ok27 c) (by simp only [go_sem]) ?_
    simp only [go_sem]
    refine call_lend ?_
    simp only [go_sem]
    refine callN.eq (ok16 c hz) (by simp only [go_sem]) ?_
    simp only [go_sem]
    refine call_lend ?_
    simp only [go_sem]
    refine callN.eq (ok28 c (Clu.hold_of hz)) (by simp only [go_sem]) ?_
    simp only [go_sem]
    rw [Clu.agr_eq]
    simp only [go_sem, bne_self_eq_false]
    repeat' refine And.intro ?_ ?_
    all_goals
      refine call_lend ?_
      simp only [go_sem]
      refine callN.eq (ok16 c hz) (by simp only [go_sem]) ?_
      simp only [go_sem]
      refine call_lend ?_
      simp only [go_sem]
      refine callN.eq (ok18 c c) (by simp only [go_sem]) ?_
      simp only [go_sem]
end Go.VS
