/- VS: functions by the machine. -/
import Derived.Test.YtbpjfoaafgmeaaaGreatDoorVk
import Derived.Test.YtbpjfoaafgmeaaaGreatDoorVi
set_option linter.unusedSimpArgs false
set_option linter.unusedVariables false
open Go.Proofs
set_option maxRecDepth 20000
namespace Go.VS
theorem f43_at : gz.P.funcs[43]? = some Tryz.f43 := by
  have h : Tryz.prog.funcs[43]? = some Tryz.f43 := by kernel_rfl
  exact h
theorem f101_at : gz.P.funcs[101]? = some Tryz.f101 := by
  have h : Tryz.prog.funcs[101]? = some Tryz.f101 := by kernel_rfl
  exact h
theorem f42_at : gz.P.funcs[42]? = some Tryz.f42 := by
  have h : Tryz.prog.funcs[42]? = some Tryz.f42 := by kernel_rfl
  exact h
/-- a block's name -/
def Blk.nm (b : Blk) : Int := if dig b.sh < 1 then 1 else dig b.sh
theorem Blk.nm_rng (b : Blk) : 1 ≤ b.nm ∧ b.nm < 2147483647 := by
  have := digV_rng b.sh
  unfold Blk.nm
  split <;> omega
theorem ok43 (b : Blk) : VCalls gz 43 [b.enc false] none (fun y _ => y = .lit (.int .i64 b.nm)) := by
  refine VCalls.go (nt := 7) (keep := [0, 1, 2]) (muts := []) (mvs := []) [] f43_at rfl (by kernel_rfl) rfl (by kernel_rfl) rfl (fun i h => by cases h) rfl ?_
  intro hok
  simp only [go_sem] at hok
  simp only [Tryz.f43, Func.code, Option.getD_some]
  simp only [go_sem]
  refine call_lend ?_
  simp only [go_sem]
  refine callN.eq (ok87 b) (by simp only [go_sem]) ?_
  simp only [go_sem]
  refine call_lend ?_
  simp only [go_sem]
  refine callN.eq (ok103 b.sh) (by simp only [go_sem]) ?_
  simp only [go_sem]
  refine call_lend ?_
  simp only [go_sem]
  refine callN.eq (ok102 1 (dig b.sh)) (by simp only [go_sem]) ?_
  simp only [go_sem]
  try rfl
def fndP (name view : Int) (b : Blk) : Bool := decide (b.view = view) && decide (b.nm = name)
theorem getElem_D {α : Type} [Inhabited α] {xs : List α} {i : Nat} (h : i < xs.length) : xs[i] = xs.getD i default := by simp [List.getD, h]
theorem take_all {α : Type} [Inhabited α] {xs : List α} {p : α → Bool} {i : Nat} (hi : i ≤ xs.length) (h : ∀ j, j < i → p (xs.getD j default) = false) : ∀ x ∈ xs.take i, p x = false := fun x hx => by
  obtain ⟨j, hj, rfl⟩ := List.mem_iff_getElem.1 hx
  rw [List.length_take] at hj
  rw [List.getElem_take, getElem_D (by omega)]
  exact h j (by omega)
theorem nx {P : Nat → Prop} {i : Nat} (he : ∀ j, j < i → P j) (h : P i) : ∀ j, j < i + 1 → P j := fun j hj => by
  by_cases hji : j < i
  · exact he j hji
  · have : j = i := by omega
    subst this
    exact h
theorem ok101 (l : List Blk) (name view : Int) : VCalls gz 101 [.lst false 8 (l.map (Blk.enc false)), .lit (.int .i64 name), .lit (.int .i64 view)] none (fun y _ => y = .lit (.int .i64 (idxOf (fndP name view) l))) := by
  refine VCalls.go (nt := 31) (keep := [0, 1, 2, 6, 7, 11, 29]) (muts := []) (mvs := []) [] f101_at rfl (by kernel_rfl) rfl (by kernel_rfl) rfl (fun i h => by cases h) rfl ?_
  intro hok
  simp only [go_sem] at hok
  simp only [Tryz.f101, Func.code, Option.getD_some]
  simp only [go_sem]
  refine vm_loopK (α := Nat) (fun i => [(0, .lst false 8 (l.map (Blk.enc false))), (1, .lit (.int .i64 name)), (2, .lit (.int .i64 view)), (7, .lit (.int .i64 i))]) (fun i => i ≤ l.length ∧ ∀ j, j < i → fndP name view (l.getD j default) = false) (fun i => l.length - i) 0 ?_ ⟨by omega, fun j hj => by omega⟩ (by kernel_rfl) (fun _ => rfl) ?_
  · simp only [go_sem]
    try rfl
  · rintro i ⟨hi, he⟩ hk
    simp only [go_sem]
    intro _
    first | refine branch_ndec (fun h6 => ?_) (fun h6 => ?_) | refine branch_dec (fun h6 => ?_) (fun h6 => ?_) | refine branch_nbool (fun h6 => ?_) (fun h6 => ?_) | refine branch_split (fun h6 => ?_) (fun h6 => ?_)
    rotate_left
    · have hie : i = l.length := by omega
      have : idxOf (fndP name view) l = -1 := idxOf_none (fun x hx => take_all (i := i) hi he x (by rw [hie, List.take_length]; exact hx))
      simp only [go_sem, this]
    have hlt : i < l.length := by omega
    have h0 : (0 : Int) ≤ (i : Int) := by omega
    have hw3 : IntKind.i64.wrap ((i : Int) + 1) = ((i + 1 : Nat) : Int) := by rw [wrap64 (by omega) (by omega)]; omega
    simp only [go_sem, h0, hlt, h6]
    by_cases h7 : (l.getD i default).view = view
    rotate_left
    · simp only [go_sem, h7, hw3]
      refine again_intro (i + 1) ⟨by omega, nx he (by simp only [fndP, decide_eq_false h7, Bool.false_and])⟩ (by omega) ?_
      simp only [go_sem]
      try rfl
    · simp only [go_sem, eq_true h7, h0, hlt, h6]
      refine call_lend ?_
      simp only [go_sem]
      refine callN.eq (ok43 (l.getD i default)) (by simp only [go_sem]) ?_
      simp only [go_sem]
      by_cases h8 : (l.getD i default).nm = name
      rotate_left
      · simp only [go_sem, h8, hw3]
        refine again_intro (i + 1) ⟨by omega, nx he (by simp only [fndP, decide_eq_false h8, Bool.and_false])⟩ (by omega) ?_
        simp only [go_sem]
        try rfl
      · have : idxOf (fndP name view) l = i := idxOf_hit (take_all hi he) hlt (by rw [getElem_D hlt, fndP, decide_eq_true h7, decide_eq_true h8]; rfl)
        simp only [go_sem, eq_true h8, this]
def knwB (l : List Blk) (p : Prf) : Bool := p.one || l.any (fndP p.name p.view)
theorem ok42 (l : List Blk) (p : Prf) : VCalls gz 42 [.lst false 8 (l.map (Blk.enc false)), p.enc false] none (fun y _ => y = .lit (.bool (knwB l p))) := by
  refine VCalls.go (nt := 16) (keep := [0, 1, 3, 4]) (muts := []) (mvs := []) [] f42_at rfl (by kernel_rfl) rfl (by kernel_rfl) rfl (fun i h => by cases h) rfl ?_
  intro hok
  simp only [go_sem] at hok
  simp only [Tryz.f42, Func.code, Option.getD_some]
  simp only [go_sem]
  refine call_lend ?_
  simp only [go_sem]
  refine callN.eq (ok97 p) (by simp only [go_sem]) ?_
  simp only [go_sem]
  cases h1 : p.one
  · simp only [go_sem]
    refine call_lend ?_
    simp only [go_sem]
    refine callN.eq (ok101 l p.name p.view) (by simp only [go_sem]) ?_
    simp only [go_sem]
    simp only [knwB, h1, Bool.false_or, idxOf_nonneg, Bool.decide_eq_true]
  · simp only [go_sem]
    simp only [knwB, h1, Bool.true_or]
end Go.VS

set_option linter.unusedSimpArgs false
set_option linter.unusedVariables false
open Go.Proofs
set_option maxRecDepth 20000
namespace Go.VS
theorem f45_at : gz.P.funcs[45]? = some Tryz.f45 := by
  have h : Tryz.prog.funcs[45]? = some Tryz.f45 := by kernel_rfl
  exact h
def lnkP (name parent view : Int) (b : Blk) : Bool := decide (b.nm = name) && (decide (b.parent = parent) && decide (b.proof.view = view))
/-- the last of the first k that fits -/
def lastN {α : Type} [Inhabited α] (p : α → Bool) (xs : List α) : Nat → Int
  | 0 => -1
  | k + 1 => if p (xs.getD k default) = true then k else lastN p xs k
theorem lastN_rng {α : Type} [Inhabited α] (p : α → Bool) (xs : List α) : ∀ k, -1 ≤ lastN p xs k ∧ lastN p xs k < k
  | 0 => by simp [lastN]
  | k + 1 => by
    have := lastN_rng p xs k
    unfold lastN
    split <;> omega
def dnS (l : List Blk) (d : Int) : Option (Int × Int) → Option (Int × Int)
  | none => none
  | some (pa, v) => if lastN (lnkP d pa v) l l.length < 0 then none else some (d, (l.getD (lastN (lnkP d pa v) l l.length).toNat default).view)
/-- parent and view behind the first i of what is done -/
def dnN (l : List Blk) (ds : List Int) : Nat → Option (Int × Int)
  | 0 => some (0, 0)
  | i + 1 => dnS l (ds.getD i default) (dnN l ds i)
theorem dnN_none {l : List Blk} {ds : List Int} {i : Nat} (h : dnN l ds i = none) : ∀ k, dnN l ds (i + k) = none
  | 0 => h
  | k + 1 => by rw [← Nat.add_assoc, dnN, dnN_none h k]; rfl
def dnB (l : List Blk) (ds : List Int) : Bool := (dnN l ds ds.length).isSome
theorem dnB_no {l : List Blk} {ds : List Int} {i : Nat} (hi : i ≤ ds.length) (h : dnN l ds i = none) : dnB l ds = false := by
  have := dnN_none h (ds.length - i)
  rw [show i + (ds.length - i) = ds.length by omega] at this
  simp [dnB, this]
set_option maxHeartbeats 2000000 in
theorem ok45 (l : List Blk) (ds : List Int) : VCalls gz 45 [.lst false 8 (l.map (Blk.enc false)), .lst false 1 (ds.map intA)] none (fun y _ => y = .lit (.bool (dnB l ds))) := by
  refine VCalls.go (nt := 63) (keep := [0, 1, 4, 5, 6, 7, 8, 9, 13, 19, 50, 53]) (muts := []) (mvs := []) [(10, .tree true (.take 0 (.take 1 (.take 2 (.take 3 (.take 5 (.take 6 (.take 7 (.take 8 (.all (.cons 4 (.take 9 (.take 10 (.take 11 (.take 12 (.take 13 (.take 14 (.take 15 (.take 16 (.take 17 (.take 18 (.take 19 (.take 20 (.take 21 (.take 22 (.take 23 (.take 24 (.take 25 (.take 26 (.take 27 (.take 28 .done)))))))))))))))))))) .nil)))))))))))] f45_at rfl (by kernel_rfl) rfl (by kernel_rfl) rfl (fun i h => by cases h) rfl ?_
  intro hok
  simp only [go_sem] at hok
  simp only [Tryz.f45, Func.code, Option.getD_some]
  simp only [go_sem]
  refine vm_loopK (α := Nat × Int × Int) (fun q => [(0, .lst false 8 (l.map (Blk.enc false))), (1, .lst false 1 (ds.map intA)), (5, .lit (.int .i64 q.2.1)), (6, .lit (.int .i64 q.2.2)), (7, .lit (.int .i64 q.1))]) (fun q => q.1 ≤ ds.length ∧ dnN l ds q.1 = some q.2) (fun q => ds.length - q.1) (0, 0, 0) ?_ ⟨by simp, rfl⟩ (by kernel_rfl) (fun _ => rfl) ?_
  · simp only [go_sem]
    try rfl
  · rintro ⟨i, pa, v⟩ ⟨hi, he⟩ hk
    simp only at hi he
    simp only [go_sem]
    intro _
    first | refine branch_ndec (fun h6 => ?_) (fun h6 => ?_) | refine branch_dec (fun h6 => ?_) (fun h6 => ?_) | refine branch_nbool (fun h6 => ?_) (fun h6 => ?_) | refine branch_split (fun h6 => ?_) (fun h6 => ?_)
    rotate_left
    · have hie : i = ds.length := by omega
      have : dnB l ds = true := by rw [dnB, ← hie, he]; rfl
      simp only [go_sem, this]
    have hlt : i < ds.length := by omega
    have h0 : (0 : Int) ≤ (i : Int) := by omega
    have hw3 : IntKind.i64.wrap ((i : Int) + 1) = ((i + 1 : Nat) : Int) := by rw [wrap64 (by omega) (by omega)]; omega
    simp only [go_sem]
    obtain ⟨p, hp⟩ : ∃ p, p = lnkP (ds.getD i default) pa v := ⟨_, rfl⟩
    refine vm_loopK (α := Nat) (fun k => [(0, .lst false 8 (l.map (Blk.enc false))), (1, .lst false 1 (ds.map intA)), (5, .lit (.int .i64 pa)), (6, .lit (.int .i64 v)), (7, .lit (.int .i64 i)), (8, .lit (.int .i64 (lastN p l k))), (9, .lit (.int .i64 k))]) (fun k => k ≤ l.length) (fun k => l.length - k) 0 ?_ (by omega) (by kernel_rfl) (fun _ => rfl) ?_
    · simp only [go_sem]
      exact ⟨rfl, rfl⟩
    · intro k hk2 hkk
      simp only [go_sem]
      intro _
      first | refine branch_ndec (fun h8 => ?_) (fun h8 => ?_) | refine branch_dec (fun h8 => ?_) (fun h8 => ?_) | refine branch_nbool (fun h8 => ?_) (fun h8 => ?_) | refine branch_split (fun h8 => ?_) (fun h8 => ?_)
      · have hlt2 : k < l.length := by omega
        have h02 : (0 : Int) ≤ (k : Int) := by omega
        have hw4 : IntKind.i64.wrap ((k : Int) + 1) = ((k + 1 : Nat) : Int) := by rw [wrap64 (by omega) (by omega)]; omega
        have hY : p (l.getD k default) = true → lastN p l (k + 1) = k := fun h => by rw [lastN, if_pos h]
        have hN : p (l.getD k default) = false → lastN p l (k + 1) = lastN p l k := fun h => by rw [lastN, h]; rfl
        simp only [go_sem, h02, hlt2, h8, h0, hlt, h6]
        repeat' refine And.intro ?_ ?_
        all_goals
          refine call_lend ?_
          simp only [go_sem]
          refine callN.eq (ok43 (l.getD k default)) (by simp only [go_sem]) ?_
          simp only [go_sem]
          by_cases h9 : (l.getD k default).nm = ds.getD i default
          rotate_left
          · have e := hN (by rw [hp, lnkP, decide_eq_false h9, Bool.false_and])
            simp only [go_sem, h9, hw4, h0, hlt, h6]
            refine again_intro (k + 1) (by omega) (by omega) ?_
            simp only [go_sem, e]
            try rfl
          simp only [go_sem, eq_true h9, h02, hlt2, h8, h0, hlt, h6]
          by_cases h10 : (l.getD k default).parent = pa
          rotate_left
          · have e := hN (by rw [hp, lnkP, decide_eq_false h10, Bool.false_and, Bool.and_false])
            simp only [go_sem, h10, hw4]
            refine again_intro (k + 1) (by omega) (by omega) ?_
            simp only [go_sem, e]
            try rfl
          simp only [go_sem, eq_true h10, h02, hlt2, h8]
          by_cases h11 : (l.getD k default).proof.view = v
          rotate_left
          · have e := hN (by rw [hp, lnkP, decide_eq_false h11, Bool.and_false, Bool.and_false])
            simp only [go_sem, h11, hw4]
            refine again_intro (k + 1) (by omega) (by omega) ?_
            simp only [go_sem, e]
            try rfl
          have e := hY (by rw [hp, lnkP, decide_eq_true h9, decide_eq_true h10, decide_eq_true h11]; rfl)
          simp only [go_sem, eq_true h11, hw4]
          refine again_intro (k + 1) (by omega) (by omega) ?_
          simp only [go_sem, e]
          try rfl
      · have hke : k = l.length := by omega
        subst hke
        have hst : dnN l ds (i + 1) = if lastN p l l.length < 0 then none else some (ds.getD i default, (l.getD (lastN p l l.length).toNat default).view) := by
          rw [dnN, he, hp]
          rfl
        have hrg := lastN_rng p l l.length
        by_cases h12 : lastN p l l.length < 0
        · have := dnB_no (l := l) (ds := ds) (i := i + 1) (by omega) (by rw [hst, if_pos h12])
          simp only [go_sem, eq_true h12, this]
        · rw [if_neg h12] at hst
          obtain ⟨f, hf⟩ := Int.eq_ofNat_of_zero_le (show 0 ≤ lastN p l l.length by omega)
          rw [hf] at hrg h12
          rw [hf, Int.toNat_natCast] at hst
          have h13 : (f : Int) < (l.length : Int) := by omega
          have h14 : (0 : Int) ≤ (f : Int) := by omega
          have h15 : f < l.length := by omega
          simp only [go_sem, hf, h12, h13, h14, h15, h0, hlt, h6, hw3]
          refine again_intro (i + 1, ds.getD i default, (l.getD f default).view) ⟨by show i + 1 ≤ ds.length; omega, hst⟩ (by show ds.length - (i + 1) < ds.length - i; omega) ?_
          simp only [go_sem]
          try rfl
end Go.VS

set_option linter.unusedSimpArgs false
set_option linter.unusedVariables false
open Go.Proofs
set_option maxRecDepth 20000
namespace Go.VS
theorem f145_at : gz.P.funcs[145]? = some Tryz.f145 := by
  have h : Tryz.prog.funcs[145]? = some Tryz.f145 := by kernel_rfl
  exact h
theorem f109_at : gz.P.funcs[109]? = some Tryz.f109 := by
  have h : Tryz.prog.funcs[109]? = some Tryz.f109 := by kernel_rfl
  exact h
theorem f58_at : gz.P.funcs[58]? = some Tryz.f58 := by
  have h : Tryz.prog.funcs[58]? = some Tryz.f58 := by kernel_rfl
  exact h
theorem f110_at : gz.P.funcs[110]? = some Tryz.f110 := by
  have h : Tryz.prog.funcs[110]? = some Tryz.f110 := by kernel_rfl
  exact h
/-- a replica at work -/
structure Pty where
  r : Rpl
  names : List Int
def Pty.enc (own : Bool) (p : Pty) : AVal := .agg [p.r.enc own, .lst own 1 (p.names.map intA), .lst own 20 []]
theorem Pty.enc_eq {own : Bool} {p : Pty} : Pty.enc own p = .agg [p.r.enc own, .lst own 1 (p.names.map intA), .lst own 20 []] := nr rfl
attribute [go_sem] Pty.enc_eq
def isI (n x : Int) : Bool := decide (n = x)
theorem ok145 (l : List Int) (n : Int) : VCalls gz 145 [.lst false 1 (l.map intA), .lit (.int .i64 n)] none (fun y _ => y = .lit (.int .i64 (idxOf (isI n) l))) := by
  refine VCalls.go (nt := 19) (keep := [0, 1, 4, 5, 7, 8, 9, 16]) (muts := []) (mvs := []) [] f145_at rfl (by kernel_rfl) rfl (by kernel_rfl) rfl (fun i h => by cases h) rfl ?_
  intro hok
  simp only [go_sem] at hok
  simp only [Tryz.f145, Func.code, Option.getD_some]
  simp only [go_sem]
  intro hm
  refine vm_loopK (α := Nat) (fun i => [(0, .lst false 1 (l.map intA)), (1, .lit (.int .i64 n)), (7, .lit (.int .i64 l.length)), (8, .lit (.int .i64 i))]) (fun i => i ≤ l.length ∧ ∀ j, j < i → isI n (l.getD j default) = false) (fun i => l.length - i) 0 ?_ ⟨by omega, fun j hj => by omega⟩ (by kernel_rfl) (fun _ => rfl) ?_
  · simp only [go_sem]
    try rfl
  · rintro i ⟨hi, he⟩ hk
    simp only [go_sem]
    first | refine branch_ndec (fun h6 => ?_) (fun h6 => ?_) | refine branch_dec (fun h6 => ?_) (fun h6 => ?_) | refine branch_nbool (fun h6 => ?_) (fun h6 => ?_) | refine branch_split (fun h6 => ?_) (fun h6 => ?_)
    rotate_left
    · have hie : i = l.length := by omega
      have : idxOf (isI n) l = -1 := idxOf_none (fun x hx => take_all (i := i) hi he x (by rw [hie, List.take_length]; exact hx))
      simp only [go_sem, this]
    have hlt : i < l.length := by omega
    have h0 : (0 : Int) ≤ (i : Int) := by omega
    have hw3 : IntKind.i64.wrap ((i : Int) + 1) = ((i + 1 : Nat) : Int) := by rw [wrap64 (by omega) (by omega)]; omega
    simp only [go_sem, h0, hlt, h6]
    first | refine branch_ndec (fun h7 => ?_) (fun h7 => ?_) | refine branch_dec (fun h7 => ?_) (fun h7 => ?_) | refine branch_nbool (fun h7 => ?_) (fun h7 => ?_) | refine branch_split (fun h7 => ?_) (fun h7 => ?_)
    · have : idxOf (isI n) l = i := idxOf_hit (take_all hi he) hlt (by rw [getElem_D hlt, isI, decide_eq_true h7])
      simp only [go_sem, this]
    · simp only [go_sem, hw3]
      refine again_intro (i + 1) ⟨by omega, nx he (by rw [isI, decide_eq_false h7])⟩ (by omega) ?_
      simp only [go_sem]
      try rfl
theorem ok109 (p : Pty) (n : Int) : VCalls gz 109 [.ptr false (p.enc false), .lit (.int .i64 n)] none (fun y _ => y = .lit (.int .i64 (idxOf (isI n) p.names))) := by
  refine VCalls.go (nt := 11) (keep := [0, 1, 4]) (muts := []) (mvs := []) [] f109_at rfl (by kernel_rfl) rfl (by kernel_rfl) rfl (fun i h => by cases h) rfl ?_
  intro hok
  simp only [go_sem] at hok
  simp only [Tryz.f109, Func.code, Option.getD_some]
  simp only [go_sem]
  refine call_lend ?_
  simp only [go_sem]
  refine callN.eq (ok145 p.names n) (by simp only [go_sem]) ?_
  simp only [go_sem]
theorem idxOf_rng {α : Type} (p : α → Bool) (xs : List α) : -1 ≤ idxOf p xs ∧ idxOf p xs < xs.length := by
  unfold idxOf
  split
  · rename_i h
    obtain ⟨x, hx, hp⟩ := List.any_eq_true.1 h
    have := List.findIdx_lt_length_of_exists ⟨x, hx, hp⟩
    omega
  · omega
def Pty.fnd (p : Pty) (n : Int) : Int := idxOf (isI n) p.names
def Pty.has (p : Pty) (n view : Int) : Int := if 0 ≤ p.fnd n ∧ ¬ (p.r.blocks.getD (p.fnd n).toNat default).view = view then -1 else p.fnd n
theorem ok58 (p : Pty) (hl : p.names.length = p.r.blocks.length) (n view : Int) : VCalls gz 58 [.ptr false (p.enc false), .lit (.int .i64 n), .lit (.int .i64 view)] none (fun y _ => y = .lit (.int .i64 (p.has n view))) := by
  refine VCalls.go (nt := 27) (keep := [0, 1, 2, 6, 7, 25]) (muts := []) (mvs := []) [] f58_at rfl (by kernel_rfl) rfl (by kernel_rfl) rfl (fun i h => by cases h) rfl ?_
  intro hok
  simp only [go_sem] at hok
  simp only [Tryz.f58, Func.code, Option.getD_some]
  simp only [go_sem]
  refine call_lend ?_
  simp only [go_sem]
  refine callN.eq (ok109 p n) (by simp only [go_sem]) ?_
  simp only [go_sem]
  have hr := idxOf_rng (isI n) p.names
  have hd : p.fnd n = idxOf (isI n) p.names := rfl
  rw [← hd] at hr ⊢
  by_cases h1 : 0 ≤ p.fnd n
  rotate_left
  · have : p.has n view = p.fnd n := if_neg (fun h => h1 h.1)
    simp only [go_sem, h1, this]
  obtain ⟨f, hf⟩ := Int.eq_ofNat_of_zero_le h1
  have h2 : (0 : Int) ≤ (f : Int) := by omega
  have h3 : (f : Int) < (p.r.blocks.length : Int) := by omega
  have h4 : f < p.r.blocks.length := by omega
  have he : p.has n view = if ¬ (p.r.blocks.getD f default).view = view then -1 else (f : Int) := by
    unfold Pty.has
    rw [hf, Int.toNat_natCast]
    simp only [h2, true_and]
  simp only [go_sem, hf, h2, h3, h4]
  by_cases h5 : (p.r.blocks.getD f default).view = view
  · rw [if_neg (fun h => h h5)] at he
    simp only [go_sem, eq_true h5, he]
  · rw [if_pos h5] at he
    simp only [go_sem, h5, he]
def Pty.knw (p : Pty) (b : Blk) (many : Int) : Bool := (decide (b.parent = 0) && b.proof.one) || (decide (0 ≤ p.has b.parent b.proof.view) && decide (p.has b.parent b.proof.view < many))
theorem ok110 (p : Pty) (hl : p.names.length = p.r.blocks.length) (b : Blk) (many : Int) : VCalls gz 110 [.ptr false (p.enc false), b.enc false, .lit (.int .i64 many)] none (fun y _ => y = .lit (.bool (p.knw b many))) := by
  refine VCalls.go (nt := 30) (keep := [0, 1, 2, 4, 6, 7, 15]) (muts := []) (mvs := []) [] f110_at rfl (by kernel_rfl) rfl (by kernel_rfl) rfl (fun i h => by cases h) rfl ?_
  intro hok
  simp only [go_sem] at hok
  simp only [Tryz.f110, Func.code, Option.getD_some]
  simp only [go_sem]
  have hN : (decide (b.parent = 0) && b.proof.one) = false → p.knw b many = (decide (0 ≤ p.has b.parent b.proof.view) && decide (p.has b.parent b.proof.view < many)) := fun h => by rw [Pty.knw, h, Bool.false_or]
  have hY : (decide (b.parent = 0) && b.proof.one) = true → p.knw b many = true := fun h => by rw [Pty.knw, h, Bool.true_or]
  by_cases h1 : b.parent = 0
  · simp only [go_sem, eq_true h1]
    refine call_lend ?_
    simp only [go_sem]
    refine callN.eq (ok57 b.proof) (by simp only [go_sem]) ?_
    simp only [go_sem]
    cases h2 : b.proof.one
    · have e := hN (by rw [h2, Bool.and_false])
      simp only [go_sem]
      refine call_lend ?_
      simp only [go_sem]
      refine callN.eq (ok58 p hl b.parent b.proof.view) (by simp only [go_sem]) ?_
      simp only [go_sem]
      by_cases h3 : 0 ≤ p.has b.parent b.proof.view
      · simp only [go_sem, eq_true h3, e, decide_true, Bool.true_and]
      · simp only [go_sem, h3, e, decide_false, Bool.false_and]
    · have e := hY (by rw [h2, decide_eq_true h1]; rfl)
      simp only [go_sem, e]
  · have e := hN (by rw [decide_eq_false h1, Bool.false_and])
    simp only [go_sem, h1]
    refine call_lend ?_
    simp only [go_sem]
    refine callN.eq (ok58 p hl b.parent b.proof.view) (by simp only [go_sem]) ?_
    simp only [go_sem]
    by_cases h3 : 0 ≤ p.has b.parent b.proof.view
    · simp only [go_sem, eq_true h3, e, decide_true, Bool.true_and]
    · simp only [go_sem, h3, e, decide_false, Bool.false_and]
end Go.VS

set_option linter.unusedSimpArgs false
set_option linter.unusedVariables false
open Go.Proofs
set_option maxRecDepth 20000
namespace Go.VS
theorem f59_at : gz.P.funcs[59]? = some Tryz.f59 := by
  have h : Tryz.prog.funcs[59]? = some Tryz.f59 := by kernel_rfl
  exact h
def Pty.par (p : Pty) : Nat → Int
  | 0 => 0
  | i + 1 => p.r.done.getD i default
def Pty.dnR (p : Pty) (i : Nat) : Bool := decide (0 ≤ p.fnd (p.r.done.getD i default)) && decide ((p.r.blocks.getD (p.fnd (p.r.done.getD i default)).toNat default).parent = p.par i)
def Pty.dnOk (p : Pty) : Bool := (List.range p.r.done.length).all p.dnR
theorem Pty.dn_bad {p : Pty} {i : Nat} (hi : i < p.r.done.length) (h : p.dnR i = false) : p.dnOk = false :=
  List.all_eq_false.2 ⟨i, List.mem_range.2 hi, by rw [h]; decide⟩
theorem ok59 (p : Pty) (hl : p.names.length = p.r.blocks.length) : VCalls gz 59 [.ptr false (p.enc false)] none (fun y _ => y = .lit (.bool p.dnOk)) := by
  refine VCalls.go (nt := 37) (keep := [0, 2, 3, 5, 6, 11, 12, 13, 14, 34]) (muts := []) (mvs := []) [] f59_at rfl (by kernel_rfl) rfl (by kernel_rfl) rfl (fun i h => by cases h) rfl ?_
  intro hok
  simp only [go_sem] at hok
  simp only [Tryz.f59, Func.code, Option.getD_some]
  simp only [go_sem]
  intro hm
  refine vm_loopK (α := Nat) (fun i => [(0, .ptr false (p.enc false)), (2, .lit (.bool false)), (3, .lit (.int .i64 (p.par i))), (11, .lst false 1 (p.r.done.map intA)), (12, .lit (.int .i64 p.r.done.length)), (13, .lit (.int .i64 i))]) (fun i => i ≤ p.r.done.length ∧ ∀ j, j < i → p.dnR j = true) (fun i => p.r.done.length - i) 0 ?_ ⟨by omega, fun j hj => by omega⟩ (by kernel_rfl) (fun _ => rfl) ?_
  · simp only [go_sem]
    exact ⟨rfl, rfl⟩
  · rintro i ⟨hi, he⟩ hk
    simp only [go_sem]
    first | refine branch_ndec (fun h6 => ?_) (fun h6 => ?_) | refine branch_dec (fun h6 => ?_) (fun h6 => ?_) | refine branch_nbool (fun h6 => ?_) (fun h6 => ?_) | refine branch_split (fun h6 => ?_) (fun h6 => ?_)
    rotate_left
    · have : p.dnOk = true := List.all_eq_true.2 fun x hx => he x (by have := List.mem_range.1 hx; omega)
      simp only [go_sem, this]
    have hlt : i < p.r.done.length := by omega
    have h0 : (0 : Int) ≤ (i : Int) := by omega
    have hw3 : IntKind.i64.wrap ((i : Int) + 1) = ((i + 1 : Nat) : Int) := by rw [wrap64 (by omega) (by omega)]; omega
    simp only [go_sem, h0, hlt, h6]
    refine call_lend ?_
    simp only [go_sem]
    refine callN.eq (ok109 p (p.r.done.getD i default)) (by simp only [go_sem]) ?_
    simp only [go_sem]
    have hr := idxOf_rng (isI (p.r.done.getD i default)) p.names
    have hd : p.fnd (p.r.done.getD i default) = idxOf (isI (p.r.done.getD i default)) p.names := rfl
    rw [← hd] at hr ⊢
    by_cases h1 : 0 ≤ p.fnd (p.r.done.getD i default)
    rotate_left
    · have h1b : p.fnd (p.r.done.getD i default) < 0 := by omega
      have : p.dnOk = false := Pty.dn_bad hlt (by rw [Pty.dnR, decide_eq_false h1, Bool.false_and])
      simp only [go_sem, eq_true h1b, this]
    obtain ⟨f, hf⟩ := Int.eq_ofNat_of_zero_le h1
    have h2 : (0 : Int) ≤ (f : Int) := by omega
    have h2b : ¬ (f : Int) < 0 := by omega
    have h3 : (f : Int) < (p.r.blocks.length : Int) := by omega
    have h4 : f < p.r.blocks.length := by omega
    have hdn : p.dnR i = decide ((p.r.blocks.getD f default).parent = p.par i) := by
      rw [Pty.dnR, decide_eq_true h1, Bool.true_and, hf, Int.toNat_natCast]
    simp only [go_sem, hf, h2, h2b, h3, h4]
    by_cases h5 : (p.r.blocks.getD f default).parent = p.par i
    rotate_left
    · have : p.dnOk = false := Pty.dn_bad hlt (by rw [hdn, decide_eq_false h5])
      simp only [go_sem, h5, this]
    · simp only [go_sem, eq_true h5, hw3]
      refine again_intro (i + 1) ⟨by omega, nx he (by rw [hdn, decide_eq_true h5])⟩ (by omega) ?_
      simp only [go_sem]
      try rfl
end Go.VS

set_option linter.unusedSimpArgs false
set_option linter.unusedVariables false
open Go.Proofs
set_option maxRecDepth 20000
namespace Go.VS
theorem f89_at : gz.P.funcs[89]? = some Tryz.f89 := by
  have h : Tryz.prog.funcs[89]? = some Tryz.f89 := by kernel_rfl
  exact h
theorem f88_at : gz.P.funcs[88]? = some Tryz.f88 := by
  have h : Tryz.prog.funcs[88]? = some Tryz.f88 := by kernel_rfl
  exact h
set_option maxHeartbeats 4000000 in
theorem ok89 (b : Blk) : VCalls gz 89 [b.enc false] none (fun y _ => y = .lit (.string b.sh)) := by
  refine VCalls.go (nt := 106) (keep := [0, 1, 2, 3, 4, 5, 6, 7, 9, 11, 35, 53, 54, 55, 56, 76, 77, 78, 79, 84, 86, 87, 88, 89]) (muts := []) (mvs := [1076]) [] f89_at rfl (by kernel_rfl) rfl (by kernel_rfl) rfl (fun i h => by cases h) rfl ?_
  intro hok
  simp only [go_sem] at hok
  simp only [Tryz.f89, Func.code, Option.getD_some]
  simp only [go_sem]
  refine call_lend ?_
  simp only [go_sem]
  refine callN.eq (ok129 b.moves) (by simp only [go_sem]) ?_
  simp only [go_sem]
  intro hm hm2
  have htl := txs_len (l := b.moves)
  by_cases h2 : (b.proof.bys.length : Int) = (b.proof.tags.length : Int)
  rotate_left
  · have : b.sh = ⟨#[]⟩ := Blk.sh_no fun h => by have := h.1.2; omega
    simp only [go_sem, h2, this]
  simp only [go_sem, eq_true h2]
  by_cases h1 : 7 < (b.proof.bys.length : Int)
  · have : b.sh = ⟨#[]⟩ := Blk.sh_no fun h => by have := h.1.1; omega
    simp only [go_sem, h1, this]
  simp only [go_sem, h1]
  by_cases ht : ((txs b.moves).length : Int) = 0
  · have : b.sh = ⟨#[]⟩ := Blk.sh_no fun h => h.2.2.1 (List.eq_nil_of_length_eq_zero (by omega))
    simp only [go_sem, eq_true ht, this]
  simp only [go_sem, ht]
  intro _ _ _ _
  have hl7 : b.proof.bys.length ≤ 7 := by omega
  have hl2 : b.proof.bys.length = b.proof.tags.length := by omega
  refine vm_loopK (α := Nat) (fun i => [(1, .ptr true (b.enc false)), (2, .lit (.string ⟨#[]⟩)), (3, .lst true 1 ((txs b.moves).map byteA)), (4, .lst true 1 ((shL b i).map intA)), (53, .lst false 1 (b.proof.bys.map intA)), (54, .lit (.int .i64 b.proof.bys.length)), (55, .lit (.int .i64 i))]) (fun i => i ≤ b.proof.bys.length) (fun i => b.proof.bys.length - i) 0 ?_ (by omega) (by kernel_rfl) (fun _ => rfl) ?_
  · simp only [go_sem, shL_zero]
    try rfl
  · intro i hi hk
    simp only [go_sem]
    first | refine branch_ndec (fun h6 => ?_) (fun h6 => ?_) | refine branch_dec (fun h6 => ?_) (fun h6 => ?_) | refine branch_nbool (fun h6 => ?_) (fun h6 => ?_) | refine branch_split (fun h6 => ?_) (fun h6 => ?_)
    · have hlt : i < b.proof.bys.length := by omega
      have hlt2 : i < b.proof.tags.length := by omega
      have h0 : (0 : Int) ≤ (i : Int) := by omega
      have h6b : (i : Int) < (b.proof.tags.length : Int) := by omega
      have hw3 : IntKind.i64.wrap ((i : Int) + 1) = ((i + 1 : Nat) : Int) := by rw [wrap64 (by omega) (by omega)]; omega
      have hsl := shL_len (b := b) (i := i)
      simp only [go_sem, h0, hlt, h6, hlt2, h6b, hw3]
      refine ⟨by omega, ?_⟩
      refine again_intro (i + 1) (by omega) (by omega) ?_
      simp only [go_sem]
      rw [shL_succ, List.map_append]
      try rfl
    · have hie : i = b.proof.bys.length := by omega
      subst hie
      simp only [go_sem]
      have hsl := shL_len (b := b) (i := b.proof.bys.length)
      obtain ⟨L, hL⟩ : ∃ L, L = shL b b.proof.bys.length := ⟨_, rfl⟩
      rw [← hL] at hsl ⊢
      refine ⟨by omega, fun _ => ?_⟩
      obtain ⟨M, hM⟩ : ∃ M, M = L ++ [b.bY] := ⟨_, rfl⟩
      have hMl : M.length = L.length + 1 := by rw [hM]; simp
      have hMin : b.sh = ⟨#[]⟩ ∨ (∀ x ∈ L, inR x) ∧ inR b.bY := by
        by_cases hq : (∀ x ∈ L, inR x) ∧ inR b.bY
        · exact .inr hq
        · exact .inl (Blk.sh_no fun h => hq ⟨by rw [hL]; exact h.2.1, h.2.2.2⟩)
      refine vm_loopK (α := Nat) (fun k => [(1, .ptr true (b.enc false)), (2, .lit (.string ⟨#[]⟩)), (3, .lst true 1 ((txs b.moves).map byteA)), (4, .lst false 1 (L.map intA)), (7, .lst true 1 []), (76, .lst false 1 (M.map intA)), (77, .lit (.int .i64 M.length)), (78, .lit (.int .i64 k))]) (fun k => k ≤ M.length ∧ ∀ j, j < k → inR (M.getD j default)) (fun k => M.length - k) 0 ?_ ⟨by omega, fun j hj => by omega⟩ (by kernel_rfl) (fun _ => rfl) ?_
      · simp only [go_sem]
        rw [hM, hsl]
        simp only [List.map_append, List.map_cons, List.map_nil, intA_eq, List.length_append, List.length_cons, List.length_nil, hsl]
        exact ⟨trivial, trivial, rfl⟩
      · rintro k ⟨hk2, hin⟩ hkk
        simp only [go_sem]
        first | refine branch_ndec (fun h8 => ?_) (fun h8 => ?_) | refine branch_dec (fun h8 => ?_) (fun h8 => ?_) | refine branch_nbool (fun h8 => ?_) (fun h8 => ?_) | refine branch_split (fun h8 => ?_) (fun h8 => ?_)
        · have hlt : k < M.length := by omega
          have h0 : (0 : Int) ≤ (k : Int) := by omega
          have hw3 : IntKind.i64.wrap ((k : Int) + 1) = ((k + 1 : Nat) : Int) := by rw [wrap64 (by omega) (by omega)]; omega
          simp only [go_sem, h0, hlt, h8]
          refine call_lend ?_
          simp only [go_sem]
          refine callN.eq (ok52 (M.getD k default) 0 1099511627776) (by simp only [go_sem]) ?_
          simp only [go_sem]
          by_cases h9 : 0 ≤ M.getD k default ∧ M.getD k default ≤ 1099511627776
          rotate_left
          · have : b.sh = ⟨#[]⟩ := by
              rcases hMin with h | h
              · exact h
              · exfalso
                have hm := getD_mem hlt
                rw [hM] at hm h9
                rcases List.mem_append.1 hm with hm | hm
                · exact h9 (h.1 _ hm)
                · rw [List.mem_singleton.1 hm] at h9
                  exact h9 h.2
            simp only [go_sem, eq_false h9, this]
          simp only [go_sem, eq_true h9, hw3]
          refine again_intro (k + 1) ⟨by omega, nx hin h9⟩ (by omega) ?_
          simp only [go_sem]
          try rfl
        · have hall : ∀ x ∈ M, inR x := fun x hx => by
            obtain ⟨j, hj, rfl⟩ := List.mem_iff_getElem.1 hx
            rw [getElem_D hj]
            exact hin j (by omega)
          have hallL : ∀ x ∈ L, inR x := fun x hx => hall x (by rw [hM]; exact List.mem_append.2 (.inl hx))
          have hb : inR b.bY := hall _ (by rw [hM]; simp)
          simp only [go_sem]
          intro _
          refine vm_loopK (α := Nat) (fun k => [(1, .ptr true (b.enc false)), (3, .lst true 1 ((txs b.moves).map byteA)), (7, .lst true 1 ((nums (L.take k)).map byteA)), (86, .lst false 1 (L.map intA)), (87, .lit (.int .i64 L.length)), (88, .lit (.int .i64 k))]) (fun k => k ≤ L.length) (fun k => L.length - k) 0 ?_ (by omega) (by kernel_rfl) (fun _ => rfl) ?_
          · simp only [go_sem]
            exact ⟨rfl, rfl⟩
          · intro k hk3 hkk3
            simp only [go_sem]
            first | refine branch_ndec (fun h10 => ?_) (fun h10 => ?_) | refine branch_dec (fun h10 => ?_) (fun h10 => ?_) | refine branch_nbool (fun h10 => ?_) (fun h10 => ?_) | refine branch_split (fun h10 => ?_) (fun h10 => ?_)
            · have hlt : k < L.length := by omega
              have h0 : (0 : Int) ≤ (k : Int) := by omega
              have hw3 : IntKind.i64.wrap ((k : Int) + 1) = ((k + 1 : Nat) : Int) := by rw [wrap64 (by omega) (by omega)]; omega
              have hr : inR (L.getD k default) := hallL _ (getD_mem hlt)
              obtain ⟨m, hmm⟩ := Int.eq_ofNat_of_zero_le hr.1
              have hm9 : m ≤ 1099511627776 := by have := hr.2; omega
              simp only [go_sem, h0, hlt, h10, hmm]
              refine call_lend ?_
              simp only [go_sem]
              refine callN.eq (ok130 m hm9) (by simp only [go_sem]) ?_
              simp only [go_sem]
              have hl9 := numB_len9 (n := m) (by omega)
              have hnl := nums_len (xs := L.take k) (fun x hx => hallL x (List.mem_of_mem_take hx))
              rw [List.length_take] at hnl
              refine ⟨by omega, ?_⟩
              rw [hw3]
              refine again_intro (k + 1) (by omega) (by omega) ?_
              simp only [go_sem]
              rw [take_succ_getD hlt, nums_app, List.map_append, hmm]
              have e : nums [(m : Int)] = numB m := by simp [nums]
              rw [e]
              try trivial
            · have hke : k = L.length := by omega
              subst hke
              simp only [go_sem]
              have hsh : b.shOk := ⟨⟨hl7, hl2⟩, by rw [← hL]; exact hallL, fun h => ht (by rw [h]; rfl), hb⟩
              have hnl := nums_len hallL
              obtain ⟨m, hmm⟩ := Int.eq_ofNat_of_zero_le hb.1
              have hm9 : m ≤ 1099511627776 := by have := hb.2; omega
              have hl9 := numB_len9 (n := m) (by omega)
              simp only [go_sem, hmm]
              refine ⟨by omega, ?_⟩
              refine call_lend ?_
              simp only [go_sem]
              refine callN.eq (ok130 m hm9) (by simp only [go_sem]) ?_
              simp only [go_sem]
              refine ⟨by omega, ?_⟩
              simp only [go_sem, strOfA_3]
              rw [Blk.sh_yes hsh, Blk.shB, ← hL, hmm]
              rfl
theorem ok88 (b : Blk) : VCalls gz 88 [b.enc false] none (fun y _ => y = .lit (.int .i64 (if b.sh.size = 0 then -1 else b.nm))) := by
  refine VCalls.go (nt := 11) (keep := [0, 1, 2, 3, 7]) (muts := []) (mvs := []) [] f88_at rfl (by kernel_rfl) rfl (by kernel_rfl) rfl (fun i h => by cases h) rfl ?_
  intro hok
  simp only [go_sem] at hok
  simp only [Tryz.f88, Func.code, Option.getD_some]
  simp only [go_sem]
  refine call_lend ?_
  simp only [go_sem]
  refine callN.eq (ok89 b) (by simp only [go_sem]) ?_
  simp only [go_sem]
  first | refine branch_ndec (fun h => ?_) (fun h => ?_) | refine branch_dec (fun h => ?_) (fun h => ?_) | refine branch_nbool (fun h => ?_) (fun h => ?_) | refine branch_split (fun h => ?_) (fun h => ?_)
  · have : b.sh.size = 0 := by rw [h]; rfl
    simp only [go_sem, this]
  · have : ¬ b.sh.size = 0 := fun hs => h (bext (List.eq_nil_of_length_eq_zero (by rw [← bsz, hs])))
    simp only [go_sem, this]
    refine call_lend ?_
    simp only [go_sem]
    refine callN.eq (ok128 b.sh) (by simp only [go_sem]) ?_
    simp only [go_sem]
    rfl
end Go.VS
