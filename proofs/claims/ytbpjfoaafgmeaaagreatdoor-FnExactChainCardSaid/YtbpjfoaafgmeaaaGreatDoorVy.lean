/- VS: functions by the machine. -/
import Derived.Test.YtbpjfoaafgmeaaaGreatDoorVf
import Derived.Test.YtbpjfoaafgmeaaaGreatDoorVg
import Derived.Test.YtbpjfoaafgmeaaaGreatDoorVn
set_option linter.unusedSimpArgs false
set_option linter.unusedVariables false
open Go.Proofs
set_option maxRecDepth 20000
namespace Go.VS
theorem modify_strB {i : Nat} {xs : List ByteArray} {v : ByteArray} : (xs.map strA).modify i (putF [] (.lit (.string v))) = (xs.set i v).map strA := modify_enc (f := strA) rfl
attribute [go_sem] modify_strB
theorem f125_at : gz.P.funcs[125]? = some Tryz.f125 := by
  have h : Tryz.prog.funcs[125]? = some Tryz.f125 := by kernel_rfl
  exact h
theorem f84_at : gz.P.funcs[84]? = some Tryz.f84 := by
  have h : Tryz.prog.funcs[84]? = some Tryz.f84 := by kernel_rfl
  exact h
theorem f86_at : gz.P.funcs[86]? = some Tryz.f86 := by
  have h : Tryz.prog.funcs[86]? = some Tryz.f86 := by kernel_rfl
  exact h
/-- the text of a mark -/
def mtB (k : Int) : ByteArray := if k ≤ 0 then ⟨#[109, 48]⟩ else ⟨#[109]⟩ ++ itoaB k
theorem mtB_size (k : Int) (h : -9223372036854775808 ≤ k ∧ k ≤ 9223372036854775807) : (mtB k).size ≤ 22 := by
  unfold mtB
  split
  · decide
  · rw [ByteArray.size_append]
    have := itoaB_size k h
    have : (⟨#[109]⟩ : ByteArray).size = 1 := rfl
    omega
theorem ok125 (n : Int) : VCalls gz 125 [.lit (.int .i64 n)] none (fun y _ => y = .lit (.string (mtB n))) := by
  refine VCalls.go (nt := 20) (keep := [0, 2, 3, 5, 7]) (muts := []) (mvs := []) [] f125_at rfl (by kernel_rfl) rfl (by kernel_rfl) rfl (fun i h => by cases h) rfl ?_
  intro hok
  simp only [go_sem] at hok
  simp only [Tryz.f125, Func.code, Option.getD_some]
  simp only [go_sem]
  first | refine branch_ndec (fun h1 => ?_) (fun h1 => ?_) | refine branch_dec (fun h1 => ?_) (fun h1 => ?_) | refine branch_nbool (fun h1 => ?_) (fun h1 => ?_) | refine branch_split (fun h1 => ?_) (fun h1 => ?_)
  · have e : mtB n = ⟨#[109, 48]⟩ := if_pos h1
    simp only [go_sem, e]
    try trivial
  · have e : mtB n = ⟨#[109]⟩ ++ itoaB n := if_neg h1
    simp only [go_sem]
    refine vm_loopK (α := Int × ByteArray) (fun q => [(0, .lit (.int .i64 q.1)), (3, .lit (.string q.2)), (2, .lit (.string ⟨#[]⟩))]) (fun q => WInv n q.1 q.2 ∧ (q.2 = ByteArray.empty → q.1 = n)) (fun q => q.1.natAbs) (n, ByteArray.empty) ?_ ⟨⟨fun h => h, fun h => by omega, Nat.le_refl _, .inl ⟨rfl, rfl⟩⟩, fun _ => rfl⟩ (by kernel_rfl) (fun _ => rfl) ?_
    · simp only [go_sem]
      try trivial
    · rintro ⟨m, s⟩ ⟨hi, he⟩ hk
      simp only at hi he
      have hm0 : 0 ≤ m := hi.1 (by omega)
      have hs := WInv.size hi hok
      have hm1 := hi.2.2.1
      simp only [go_sem]
      first | refine branch_ndec (fun h2 => ?_) (fun h2 => ?_) | refine branch_dec (fun h2 => ?_) (fun h2 => ?_) | refine branch_nbool (fun h2 => ?_) (fun h2 => ?_) | refine branch_split (fun h2 => ?_) (fun h2 => ?_)
      · have hb := digit_byte (m := m) (k := m.tmod 10) (by rw [if_neg]; have := tmod_mod hm0 (show (0 : Int) < 10 by omega); omega)
        have hw : IntKind.i64.wrap (m.tdiv 10) = m.tdiv 10 := by
          have ht : (m.tdiv 10).natAbs = m.natAbs / 10 := by rw [Int.natAbs_tdiv]; rfl
          exact wrap64 (by omega) (by omega)
        simp only [go_sem, hb, hw]
        have h0 := hi.step (.inr (by omega)) _ rfl (str_cons (UInt8.ofNat (48 + m.natAbs % 10)) s)
        refine ⟨by show 1 + s.size ≤ 9223372036854775807
                   omega, again_intro (m.tdiv 10, (⟨[UInt8.ofNat (48 + m.natAbs % 10)].toArray⟩ : ByteArray) ++ s) ⟨h0, fun hh => ?_⟩ ?_ ?_⟩
        · have := congrArg ByteArray.size hh
          rw [ByteArray.size_append] at this
          have hz : (⟨[UInt8.ofNat (48 + m.natAbs % 10)].toArray⟩ : ByteArray).size = 1 := rfl
          rw [hz] at this
          simp at this
        · have ht : (m.tdiv 10).natAbs = m.natAbs / 10 := by rw [Int.natAbs_tdiv]; rfl
          simp only
          omega
        · simp only [go_sem]
          try trivial
      · have hm : m = 0 := by omega
        subst hm
        have hne : s ≠ ByteArray.empty := fun hh => by have := he hh; omega
        have hd := hi.done hne
        have e2 : s = itoaB n := by
          apply bext
          have e3 : n.toNat = n.natAbs := by omega
          unfold itoaB Lib.itoa
          rw [if_neg (by omega), e3, hd]
        simp only [go_sem, e]
        rw [e2]
        exact ⟨by have := itoaB_size n hok
                  show 1 + _ ≤ 9223372036854775807
                  omega, rfl⟩
/-- the marks of a list, one element after the other -/
def mkL {α : Type} (f : α → Int → α × Int) : List α → Int → List α × Int
  | [], k => ([], k)
  | x :: xs, k => ((f x k).1 :: (mkL f xs (f x k).2).1, (mkL f xs (f x k).2).2)
/-- the number behind the first i -/
def mkN {α : Type} (f : α → Int → α × Int) (xs : List α) (k : Int) (i : Nat) : Int := (mkL f (xs.take i) k).2
theorem mkL_length {α : Type} (f : α → Int → α × Int) : ∀ (xs : List α) (k : Int), (mkL f xs k).1.length = xs.length
  | [], k => rfl
  | x :: xs, k => by simp only [mkL, List.length_cons, mkL_length f xs]
theorem mkN_zero {α : Type} (f : α → Int → α × Int) (xs : List α) (k : Int) : mkN f xs k 0 = k := rfl
theorem mkN_all {α : Type} (f : α → Int → α × Int) (xs : List α) (k : Int) : mkN f xs k xs.length = (mkL f xs k).2 := by simp [mkN]
theorem mkN_succ {α : Type} [Inhabited α] (f : α → Int → α × Int) : ∀ (xs : List α) (k : Int) (i : Nat), i < xs.length → mkN f xs k (i + 1) = (f (xs.getD i default) (mkN f xs k i)).2 ∧ (mkL f xs k).1.getD i default = (f (xs.getD i default) (mkN f xs k i)).1
  | [], k, i, h => by simp at h
  | x :: xs, k, 0, h => by simp [mkN, mkL]
  | x :: xs, k, i + 1, h => by
    have := mkN_succ f xs (f x k).2 i (by simpa using h)
    simpa [mkN, mkL] using this
def tot {α : Type} (w : α → Nat) (xs : List α) : Nat := (xs.map w).sum
/-- each mark adds at most c -/
def mkC {α : Type} (f : α → Int → α × Int) (w : α → Nat) : Prop := ∀ x k, (f x k).2 = k + w x
theorem mkN_add {α : Type} (f : α → Int → α × Int) {w : α → Nat} (h : mkC f w) (xs : List α) (k : Int) (i : Nat) : mkN f xs k i = k + ((xs.take i).map w).sum := by
  unfold mkN
  generalize xs.take i = ys
  induction ys generalizing k with
  | nil => simp [mkL]
  | cons y ys ih =>
    simp only [mkL, ih, h y k, List.map_cons, List.sum_cons]
    omega
theorem mkN_rng {α : Type} (f : α → Int → α × Int) {w : α → Nat} (h : mkC f w) (xs : List α) (k : Int) (i : Nat) : k ≤ mkN f xs k i ∧ mkN f xs k i ≤ k + (tot w xs : Nat) := by
  unfold tot
  rw [mkN_add f h]
  have : (xs.map w).sum = ((xs.take i).map w).sum + ((xs.drop i).map w).sum := by
    rw [← List.sum_append, ← List.map_append, List.take_append_drop]
  omega
def strM (s : ByteArray) (k : Int) : ByteArray × Int := (mtB k, k + 1)
theorem strM_c : mkC strM (fun _ => 1) := fun x k => rfl
theorem ok84 (xs : List ByteArray) (k : Int) (h1 : 0 ≤ k) (h2 : k + (tot (fun _ => 1) xs : Nat) ≤ 4611686018427387904) :
    VMut gz 84 [.lst true 1 (xs.map strA), .lit (.int .i64 k)] 0 (fun y x' => y = .lit (.int .i64 (mkL strM xs k).2) ∧ x' = .lst true 1 ((mkL strM xs k).1.map strA)) := by
  refine VMut.go (nt := 20) (keep := [0, 1, 4, 5, 9]) (i := 0) (mvs := []) [] f84_at rfl (by kernel_rfl) rfl (by kernel_rfl) rfl rfl rfl ?_
  intro hok
  simp only [go_sem] at hok
  simp only [Tryz.f84, Func.code, Option.getD_some]
  simp only [go_sem]
  have hM := mkL_length strM xs k
  refine vm_loopK (α := Nat) (fun i => [(0, .lst true 1 ((midL (mkL strM xs k).1 xs i).map strA)), (1, .lit (.int .i64 (mkN strM xs k i))), (4, .lit (.int .i64 0)), (5, .lit (.int .i64 i))]) (fun i => i ≤ xs.length) (fun i => xs.length - i) 0 ?_ (by omega) (by kernel_rfl) (fun _ => rfl) ?_
  · simp only [go_sem, midL_zero, mkN_zero]
    try trivial
  · intro i hi hk
    have hml : (midL (mkL strM xs k).1 xs i).length = xs.length := (midL_length (by omega) hM.symm).trans hM
    simp only [go_sem, hml]
    intro _
    first | refine branch_ndec (fun h3 => ?_) (fun h3 => ?_) | refine branch_dec (fun h3 => ?_) (fun h3 => ?_) | refine branch_nbool (fun h3 => ?_) (fun h3 => ?_) | refine branch_split (fun h3 => ?_) (fun h3 => ?_)
    · have hlt : i < xs.length := by omega
      have h0 : (0 : Int) ≤ (i : Int) := by omega
      have hs := mkN_succ strM xs k i hlt
      have hr := mkN_rng strM strM_c xs k i
      have hr2 := mkN_rng strM strM_c xs k (i + 1)
      have hw3 : IntKind.i64.wrap ((i : Int) + 1) = ((i + 1 : Nat) : Int) := by rw [wrap64 (by omega) (by omega)]; omega
      have hset : (midL (mkL strM xs k).1 xs i).set i (mtB (mkN strM xs k i)) = midL (mkL strM xs k).1 xs (i + 1) := by
        rw [← modify_set]
        exact midL_mod (by omega) hM.symm hs.2.symm
      have hw4 : IntKind.i64.wrap (mkN strM xs k i + 1) = mkN strM xs k (i + 1) := by rw [wrap64 (by omega) (by omega)]; exact hs.1.symm
      simp only [go_sem, h0, h3, hml]
      refine call_lend ?_
      simp only [go_sem]
      refine callN.eq (ok125 (mkN strM xs k i)) (by simp only [go_sem]) ?_
      simp only [go_sem]
      simp only [go_sem, h0, h3, hml, hlt, hset, hw3, hw4]
      refine again_intro (i + 1) (by omega) (by omega) ?_
      simp only [go_sem]
      try trivial
    · simp only [go_sem]
      have : i = xs.length := by omega
      subst this
      have e : midL (mkL strM xs k).1 xs xs.length = (mkL strM xs k).1 := by
        have := midL_all (mkL strM xs k).1 hM.symm
        rwa [hM] at this
      rw [mkN_all, e]
      simp only [go_sem]
      try trivial
theorem ok86 (xs : List ByteArray) (k : Int) (h1 : 0 ≤ k) (h2 : k + (tot (fun _ => 1) xs : Nat) ≤ 4611686018427387904) :
    VCalls gz 86 [.lst false 1 ((mkL strM xs k).1.map strA), .lit (.int .i64 k)] none (fun y _ => y = .lit (.int .i64 (mkL strM xs k).2)) := by
  refine VCalls.go (nt := 22) (keep := [0, 1, 4, 5, 9, 18]) (muts := []) (mvs := []) [(4, .tree true (.take 0 (.take 1 (.take 2 (.take 3 (.take 4 (.all (.cons 5 (.take 6 .done) .nil))))))))] f86_at rfl (by kernel_rfl) rfl (by kernel_rfl) rfl (fun i h => by cases h) rfl ?_
  intro hok
  simp only [go_sem] at hok
  simp only [Tryz.f86, Func.code, Option.getD_some]
  simp only [go_sem]
  have hM := mkL_length strM xs k
  refine vm_loopK (α := Nat) (fun i => [(0, .lst false 1 ((mkL strM xs k).1.map strA)), (1, .lit (.int .i64 (mkN strM xs k i))), (4, .lit (.int .i64 0)), (5, .lit (.int .i64 i))]) (fun i => i ≤ xs.length) (fun i => xs.length - i) 0 ?_ (by omega) (by kernel_rfl) (fun _ => rfl) ?_
  · simp only [go_sem, mkN_zero]
    try trivial
  · intro i hi hk
    simp only [go_sem, hM]
    intro _
    first | refine branch_ndec (fun h3 => ?_) (fun h3 => ?_) | refine branch_dec (fun h3 => ?_) (fun h3 => ?_) | refine branch_nbool (fun h3 => ?_) (fun h3 => ?_) | refine branch_split (fun h3 => ?_) (fun h3 => ?_)
    · have hlt : i < xs.length := by omega
      have h0 : (0 : Int) ≤ (i : Int) := by omega
      have hs := mkN_succ strM xs k i hlt
      have hr := mkN_rng strM strM_c xs k i
      have hr2 := mkN_rng strM strM_c xs k (i + 1)
      have hw3 : IntKind.i64.wrap ((i : Int) + 1) = ((i + 1 : Nat) : Int) := by rw [wrap64 (by omega) (by omega)]; omega
      have hw4 : IntKind.i64.wrap (mkN strM xs k i + 1) = mkN strM xs k (i + 1) := by rw [wrap64 (by omega) (by omega)]; exact hs.1.symm
      have hv : (mkL strM xs k).1.getD i default = mtB (mkN strM xs k i) := hs.2
      simp only [go_sem, h0, h3, hM, hlt, hv]
      repeat' refine And.intro ?_ ?_
      all_goals
        refine call_lend ?_
        simp only [go_sem]
        refine callN.eq (ok125 (mkN strM xs k i)) (by simp only [go_sem]) ?_
        simp only [go_sem]
        simp only [go_sem, h0, h3, hM, hlt, hv, hw3, hw4]
        refine again_intro (i + 1) (by omega) (by omega) ?_
        simp only [go_sem]
        try trivial
    · simp only [go_sem]
      have : i = xs.length := by omega
      subst this
      rw [mkN_all]
theorem modify_flds {α : Type} {f : α → AVal} {xs : List α} {i : Nat} {g : AVal → AVal} (h : α → α) (e : ∀ x, g (f x) = f (h x)) : (xs.map f).modify i g = (xs.modify i h).map f := by
  apply List.ext_getElem?
  intro j
  simp only [List.getElem?_modify, List.getElem?_map]
  cases xs[j]? with
  | none => rfl
  | some x => by_cases hj : i = j <;> simp [hj, e]
theorem modify_two {α : Type} {xs : List α} {i : Nat} {g h : α → α} : (xs.modify i g).modify i h = xs.modify i (fun x => h (g x)) := by
  apply List.ext_getElem?
  intro j
  simp only [List.getElem?_modify]
  cases xs[j]? with
  | none => rfl
  | some x => by_cases hj : i = j <;> simp [hj]
attribute [go_sem] modify_two List.length_modify
end Go.VS

set_option linter.unusedSimpArgs false
set_option linter.unusedVariables false
open Go.Proofs
set_option maxRecDepth 20000
namespace Go.VS
theorem f83_at : gz.P.funcs[83]? = some Tryz.f83 := by
  have h : Tryz.prog.funcs[83]? = some Tryz.f83 := by kernel_rfl
  exact h
theorem f85_at : gz.P.funcs[85]? = some Tryz.f85 := by
  have h : Tryz.prog.funcs[85]? = some Tryz.f85 := by kernel_rfl
  exact h
theorem f81_at : gz.P.funcs[81]? = some Tryz.f81 := by
  have h : Tryz.prog.funcs[81]? = some Tryz.f81 := by kernel_rfl
  exact h
theorem f94_at : gz.P.funcs[94]? = some Tryz.f94 := by
  have h : Tryz.prog.funcs[94]? = some Tryz.f94 := by kernel_rfl
  exact h
theorem f82_at : gz.P.funcs[82]? = some Tryz.f82 := by
  have h : Tryz.prog.funcs[82]? = some Tryz.f82 := by kernel_rfl
  exact h
theorem f95_at : gz.P.funcs[95]? = some Tryz.f95 := by
  have h : Tryz.prog.funcs[95]? = some Tryz.f95 := by kernel_rfl
  exact h
theorem modify_intB {i : Nat} {xs : List Int} {v : Int} : (xs.map intA).modify i (putF [] (.lit (.int .i64 v))) = (xs.set i v).map intA := modify_enc (f := intA) rfl
attribute [go_sem] modify_intB
def intM (x : Int) (k : Int) : Int × Int := (k, k + 1)
theorem intM_c : mkC intM (fun _ => 1) := fun x k => rfl
theorem ok83 (xs : List Int) (k : Int) (h1 : 0 ≤ k) (h2 : k + (tot (fun _ => 1) xs : Nat) ≤ 4611686018427387904) :
    VMut gz 83 [.lst true 1 (xs.map intA), .lit (.int .i64 k)] 0 (fun y x' => y = .lit (.int .i64 (mkL intM xs k).2) ∧ x' = .lst true 1 ((mkL intM xs k).1.map intA)) := by
  refine VMut.go (nt := 19) (keep := [0, 1, 4, 5, 9]) (i := 0) (mvs := []) [] f83_at rfl (by kernel_rfl) rfl (by kernel_rfl) rfl rfl rfl ?_
  intro hok
  simp only [go_sem] at hok
  simp only [Tryz.f83, Func.code, Option.getD_some]
  simp only [go_sem]
  have hM := mkL_length intM xs k
  refine vm_loopK (α := Nat) (fun i => [(0, .lst true 1 ((midL (mkL intM xs k).1 xs i).map intA)), (1, .lit (.int .i64 (mkN intM xs k i))), (4, .lit (.int .i64 0)), (5, .lit (.int .i64 i))]) (fun i => i ≤ xs.length) (fun i => xs.length - i) 0 ?_ (by omega) (by kernel_rfl) (fun _ => rfl) ?_
  · simp only [go_sem, midL_zero, mkN_zero]
    try trivial
  · intro i hi hk
    have hml : (midL (mkL intM xs k).1 xs i).length = xs.length := (midL_length (by omega) hM.symm).trans hM
    simp only [go_sem, hml]
    intro _
    first | refine branch_ndec (fun h3 => ?_) (fun h3 => ?_) | refine branch_dec (fun h3 => ?_) (fun h3 => ?_) | refine branch_nbool (fun h3 => ?_) (fun h3 => ?_) | refine branch_split (fun h3 => ?_) (fun h3 => ?_)
    · have hlt : i < xs.length := by omega
      have h0 : (0 : Int) ≤ (i : Int) := by omega
      have hs := mkN_succ intM xs k i hlt
      have hr := mkN_rng intM intM_c xs k i
      have hr2 := mkN_rng intM intM_c xs k (i + 1)
      have hw3 : IntKind.i64.wrap ((i : Int) + 1) = ((i + 1 : Nat) : Int) := by rw [wrap64 (by omega) (by omega)]; omega
      have hset : (midL (mkL intM xs k).1 xs i).set i (mkN intM xs k i) = midL (mkL intM xs k).1 xs (i + 1) := by
        rw [← modify_set]
        exact midL_mod (by omega) hM.symm hs.2.symm
      have hw4 : IntKind.i64.wrap (mkN intM xs k i + 1) = mkN intM xs k (i + 1) := by rw [wrap64 (by omega) (by omega)]; exact hs.1.symm
      simp only [go_sem, h0, h3, hml, hlt, hset, hw3, hw4]
      refine again_intro (i + 1) (by omega) (by omega) ?_
      simp only [go_sem]
      try trivial
    · simp only [go_sem]
      have : i = xs.length := by omega
      subst this
      have e : midL (mkL intM xs k).1 xs xs.length = (mkL intM xs k).1 := by
        have := midL_all (mkL intM xs k).1 hM.symm
        rwa [hM] at this
      rw [mkN_all, e]
      simp only [go_sem]
      try trivial
theorem ok85 (xs : List Int) (k : Int) (h1 : 0 ≤ k) (h2 : k + (tot (fun _ => 1) xs : Nat) ≤ 4611686018427387904) :
    VCalls gz 85 [.lst false 1 ((mkL intM xs k).1.map intA), .lit (.int .i64 k)] none (fun y _ => y = .lit (.int .i64 (mkL intM xs k).2)) := by
  refine VCalls.go (nt := 21) (keep := [0, 1, 4, 5, 9, 17]) (muts := []) (mvs := []) [] f85_at rfl (by kernel_rfl) rfl (by kernel_rfl) rfl (fun i h => by cases h) rfl ?_
  intro hok
  simp only [go_sem] at hok
  simp only [Tryz.f85, Func.code, Option.getD_some]
  simp only [go_sem]
  have hM := mkL_length intM xs k
  refine vm_loopK (α := Nat) (fun i => [(0, .lst false 1 ((mkL intM xs k).1.map intA)), (1, .lit (.int .i64 (mkN intM xs k i))), (4, .lit (.int .i64 0)), (5, .lit (.int .i64 i))]) (fun i => i ≤ xs.length) (fun i => xs.length - i) 0 ?_ (by omega) (by kernel_rfl) (fun _ => rfl) ?_
  · simp only [go_sem, mkN_zero]
    try trivial
  · intro i hi hk
    simp only [go_sem, hM]
    intro _
    first | refine branch_ndec (fun h3 => ?_) (fun h3 => ?_) | refine branch_dec (fun h3 => ?_) (fun h3 => ?_) | refine branch_nbool (fun h3 => ?_) (fun h3 => ?_) | refine branch_split (fun h3 => ?_) (fun h3 => ?_)
    · have hlt : i < xs.length := by omega
      have h0 : (0 : Int) ≤ (i : Int) := by omega
      have hs := mkN_succ intM xs k i hlt
      have hr := mkN_rng intM intM_c xs k i
      have hr2 := mkN_rng intM intM_c xs k (i + 1)
      have hw3 : IntKind.i64.wrap ((i : Int) + 1) = ((i + 1 : Nat) : Int) := by rw [wrap64 (by omega) (by omega)]; omega
      have hw4 : IntKind.i64.wrap (mkN intM xs k i + 1) = mkN intM xs k (i + 1) := by rw [wrap64 (by omega) (by omega)]; exact hs.1.symm
      have hv : (mkL intM xs k).1.getD i default = mkN intM xs k i := hs.2
      simp only [go_sem, h0, h3, hM, hlt, hv, hw3, hw4]
      repeat' refine And.intro ?_ ?_
      all_goals
        refine again_intro (i + 1) (by omega) (by omega) ?_
        simp only [go_sem]
        try trivial
    · simp only [go_sem]
      have : i = xs.length := by omega
      subst this
      rw [mkN_all]
theorem Vot.put0 {xs : List Vot} {i : Nat} {a : Int} : (xs.map Vot.enc).modify i (putF [0] (.lit (.int .i64 a))) = (xs.modify i (fun p => { p with view := a })).map Vot.enc := modify_flds _ fun x => rfl
theorem Vot.put1 {xs : List Vot} {i : Nat} {a : Int} : (xs.map Vot.enc).modify i (putF [1] (.lit (.int .i64 a))) = (xs.modify i (fun p => { p with name := a })).map Vot.enc := modify_flds _ fun x => rfl
theorem Vot.put2 {xs : List Vot} {i : Nat} {a : Int} : (xs.map Vot.enc).modify i (putF [2] (.lit (.int .i64 a))) = (xs.modify i (fun p => { p with bY := a })).map Vot.enc := modify_flds _ fun x => rfl
theorem Vot.put3 {xs : List Vot} {i : Nat} {a : Int} : (xs.map Vot.enc).modify i (putF [3] (.lit (.int .i64 a))) = (xs.modify i (fun p => { p with tag := a })).map Vot.enc := modify_flds _ fun x => rfl
theorem Nws.put0 {xs : List Nws} {i : Nat} {a : Int} : (xs.map Nws.enc).modify i (putF [0] (.lit (.int .i64 a))) = (xs.modify i (fun p => { p with view := a })).map Nws.enc := modify_flds _ fun x => rfl
theorem Nws.put1 {xs : List Nws} {i : Nat} {a : Int} : (xs.map Nws.enc).modify i (putF [1] (.lit (.int .i64 a))) = (xs.modify i (fun p => { p with src := a })).map Nws.enc := modify_flds _ fun x => rfl
attribute [go_sem] Vot.put0 Vot.put1 Vot.put2 Vot.put3 Nws.put0 Nws.put1
def Vot.mk4 (v : Vot) (k : Int) : Vot × Int := (⟨k, k + 1, k + 2, k + 3⟩, k + 4)
theorem Vot.mk4_c : mkC Vot.mk4 (fun _ => 4) := fun x k => rfl
def Nws.mk2 (v : Nws) (k : Int) : Nws × Int := (⟨k, k + 1⟩, k + 2)
theorem Nws.mk2_c : mkC Nws.mk2 (fun _ => 2) := fun x k => rfl
theorem ok81 (xs : List Vot) (k : Int) (h1 : 0 ≤ k) (h2 : k + (tot (fun _ => 4) xs : Nat) ≤ 4611686018427387904) :
    VMut gz 81 [.lst true 4 (xs.map Vot.enc), .lit (.int .i64 k)] 0 (fun y x' => y = .lit (.int .i64 (mkL Vot.mk4 xs k).2) ∧ x' = .lst true 4 ((mkL Vot.mk4 xs k).1.map Vot.enc)) := by
  refine VMut.go (nt := 41) (keep := [0, 1, 4, 5, 9]) (i := 0) (mvs := []) [] f81_at rfl (by kernel_rfl) rfl (by kernel_rfl) rfl rfl rfl ?_
  intro hok
  simp only [go_sem] at hok
  simp only [Tryz.f81, Func.code, Option.getD_some]
  simp only [go_sem]
  have hM := mkL_length Vot.mk4 xs k
  refine vm_loopK (α := Nat) (fun i => [(0, .lst true 4 ((midL (mkL Vot.mk4 xs k).1 xs i).map Vot.enc)), (1, .lit (.int .i64 (mkN Vot.mk4 xs k i))), (4, .lit (.int .i64 0)), (5, .lit (.int .i64 i))]) (fun i => i ≤ xs.length) (fun i => xs.length - i) 0 ?_ (by omega) (by kernel_rfl) (fun _ => rfl) ?_
  · simp only [go_sem, midL_zero, mkN_zero]
    try trivial
  · intro i hi hk
    have hml : (midL (mkL Vot.mk4 xs k).1 xs i).length = xs.length := (midL_length (by omega) hM.symm).trans hM
    simp only [go_sem, hml]
    intro _
    first | refine branch_ndec (fun h3 => ?_) (fun h3 => ?_) | refine branch_dec (fun h3 => ?_) (fun h3 => ?_) | refine branch_nbool (fun h3 => ?_) (fun h3 => ?_) | refine branch_split (fun h3 => ?_) (fun h3 => ?_)
    · have hlt : i < xs.length := by omega
      have h0 : (0 : Int) ≤ (i : Int) := by omega
      have hs := mkN_succ Vot.mk4 xs k i hlt
      have hr := mkN_rng Vot.mk4 Vot.mk4_c xs k i
      have hr2 := mkN_rng Vot.mk4 Vot.mk4_c xs k (i + 1)
      have hw3 : IntKind.i64.wrap ((i : Int) + 1) = ((i + 1 : Nat) : Int) := by rw [wrap64 (by omega) (by omega)]; omega
      have hset : (midL (mkL Vot.mk4 xs k).1 xs i).modify i (fun x => ⟨mkN Vot.mk4 xs k i, mkN Vot.mk4 xs k i + 1, mkN Vot.mk4 xs k i + 2, mkN Vot.mk4 xs k i + 3⟩) = midL (mkL Vot.mk4 xs k).1 xs (i + 1) := midL_mod (by omega) hM.symm hs.2.symm
      rw [show mkN Vot.mk4 xs k i = mkN Vot.mk4 xs k i from rfl] at hset
      have hs1 := hs.1
      simp only [Vot.mk4] at hs1
      obtain ⟨K, hK⟩ : ∃ K, K = mkN Vot.mk4 xs k i := ⟨_, rfl⟩
      rw [← hK] at hs hs1 hr ⊢
      have w1 : IntKind.i64.wrap (K + 1) = K + 1 := wrap64 (by omega) (by omega)
      have w2 : IntKind.i64.wrap (K + 2) = K + 2 := wrap64 (by omega) (by omega)
      have w3 : IntKind.i64.wrap (K + 1 + 1) = K + 2 := by rw [wrap64 (by omega) (by omega)]; omega
      have w4 : IntKind.i64.wrap (K + 2 + 1) = K + 3 := by rw [wrap64 (by omega) (by omega)]; omega
      have w5 : IntKind.i64.wrap (K + 3 + 1) = K + 4 := by rw [wrap64 (by omega) (by omega)]; omega
      rw [← hK] at hset
      simp only [go_sem, h0, h3, hml, hlt, hw3, w1, w3, w4, w5]
      refine again_intro (i + 1) (by omega) (by omega) ?_
      simp only [go_sem, hset, hs1]
      try trivial
    · simp only [go_sem]
      have : i = xs.length := by omega
      subst this
      have e : midL (mkL Vot.mk4 xs k).1 xs xs.length = (mkL Vot.mk4 xs k).1 := by
        have := midL_all (mkL Vot.mk4 xs k).1 hM.symm
        rwa [hM] at this
      rw [mkN_all, e]
      simp only [go_sem]
      try trivial
theorem ok94 (xs : List Vot) (k : Int) (h1 : 0 ≤ k) (h2 : k + (tot (fun _ => 4) xs : Nat) ≤ 4611686018427387904) :
    VCalls gz 94 [.lst false 4 ((mkL Vot.mk4 xs k).1.map Vot.enc), .lit (.int .i64 k)] none (fun y _ => y = .lit (.int .i64 (mkL Vot.mk4 xs k).2)) := by
  refine VCalls.go (nt := 49) (keep := [0, 1, 4, 5, 9, 18, 27, 36, 45]) (muts := []) (mvs := []) [] f94_at rfl (by kernel_rfl) rfl (by kernel_rfl) rfl (fun i h => by cases h) rfl ?_
  intro hok
  simp only [go_sem] at hok
  simp only [Tryz.f94, Func.code, Option.getD_some]
  simp only [go_sem]
  have hM := mkL_length Vot.mk4 xs k
  refine vm_loopK (α := Nat) (fun i => [(0, .lst false 4 ((mkL Vot.mk4 xs k).1.map Vot.enc)), (1, .lit (.int .i64 (mkN Vot.mk4 xs k i))), (4, .lit (.int .i64 0)), (5, .lit (.int .i64 i))]) (fun i => i ≤ xs.length) (fun i => xs.length - i) 0 ?_ (by omega) (by kernel_rfl) (fun _ => rfl) ?_
  · simp only [go_sem, mkN_zero]
    try trivial
  · intro i hi hk
    simp only [go_sem, hM]
    intro _
    first | refine branch_ndec (fun h3 => ?_) (fun h3 => ?_) | refine branch_dec (fun h3 => ?_) (fun h3 => ?_) | refine branch_nbool (fun h3 => ?_) (fun h3 => ?_) | refine branch_split (fun h3 => ?_) (fun h3 => ?_)
    · have hlt : i < xs.length := by omega
      have h0 : (0 : Int) ≤ (i : Int) := by omega
      have hs := mkN_succ Vot.mk4 xs k i hlt
      have hr := mkN_rng Vot.mk4 Vot.mk4_c xs k i
      have hr2 := mkN_rng Vot.mk4 Vot.mk4_c xs k (i + 1)
      have hw3 : IntKind.i64.wrap ((i : Int) + 1) = ((i + 1 : Nat) : Int) := by rw [wrap64 (by omega) (by omega)]; omega
      have hs1 := hs.1
      simp only [Vot.mk4] at hs1
      obtain ⟨K, hK⟩ : ∃ K, K = mkN Vot.mk4 xs k i := ⟨_, rfl⟩
      rw [← hK] at hs hs1 hr ⊢
      have w1 : IntKind.i64.wrap (K + 1) = K + 1 := wrap64 (by omega) (by omega)
      have w2 : IntKind.i64.wrap (K + 2) = K + 2 := wrap64 (by omega) (by omega)
      have w3 : IntKind.i64.wrap (K + 1 + 1) = K + 2 := by rw [wrap64 (by omega) (by omega)]; omega
      have w4 : IntKind.i64.wrap (K + 2 + 1) = K + 3 := by rw [wrap64 (by omega) (by omega)]; omega
      have w5 : IntKind.i64.wrap (K + 3 + 1) = K + 4 := by rw [wrap64 (by omega) (by omega)]; omega
      have hv : (mkL Vot.mk4 xs k).1.getD i default = ⟨K, K + 1, K + 2, K + 3⟩ := hs.2
      simp only [go_sem, h0, h3, hM, hlt, hv, hw3, w1, w3, w4, w5]
      repeat' refine And.intro ?_ ?_
      all_goals
        refine again_intro (i + 1) (by omega) (by omega) ?_
        simp only [go_sem, hs1]
        try trivial
    · simp only [go_sem]
      have : i = xs.length := by omega
      subst this
      rw [mkN_all]
theorem ok82 (xs : List Nws) (k : Int) (h1 : 0 ≤ k) (h2 : k + (tot (fun _ => 2) xs : Nat) ≤ 4611686018427387904) :
    VMut gz 82 [.lst true 2 (xs.map Nws.enc), .lit (.int .i64 k)] 0 (fun y x' => y = .lit (.int .i64 (mkL Nws.mk2 xs k).2) ∧ x' = .lst true 2 ((mkL Nws.mk2 xs k).1.map Nws.enc)) := by
  refine VMut.go (nt := 27) (keep := [0, 1, 4, 5, 9]) (i := 0) (mvs := []) [] f82_at rfl (by kernel_rfl) rfl (by kernel_rfl) rfl rfl rfl ?_
  intro hok
  simp only [go_sem] at hok
  simp only [Tryz.f82, Func.code, Option.getD_some]
  simp only [go_sem]
  have hM := mkL_length Nws.mk2 xs k
  refine vm_loopK (α := Nat) (fun i => [(0, .lst true 2 ((midL (mkL Nws.mk2 xs k).1 xs i).map Nws.enc)), (1, .lit (.int .i64 (mkN Nws.mk2 xs k i))), (4, .lit (.int .i64 0)), (5, .lit (.int .i64 i))]) (fun i => i ≤ xs.length) (fun i => xs.length - i) 0 ?_ (by omega) (by kernel_rfl) (fun _ => rfl) ?_
  · simp only [go_sem, midL_zero, mkN_zero]
    try trivial
  · intro i hi hk
    have hml : (midL (mkL Nws.mk2 xs k).1 xs i).length = xs.length := (midL_length (by omega) hM.symm).trans hM
    simp only [go_sem, hml]
    intro _
    first | refine branch_ndec (fun h3 => ?_) (fun h3 => ?_) | refine branch_dec (fun h3 => ?_) (fun h3 => ?_) | refine branch_nbool (fun h3 => ?_) (fun h3 => ?_) | refine branch_split (fun h3 => ?_) (fun h3 => ?_)
    · have hlt : i < xs.length := by omega
      have h0 : (0 : Int) ≤ (i : Int) := by omega
      have hs := mkN_succ Nws.mk2 xs k i hlt
      have hr := mkN_rng Nws.mk2 Nws.mk2_c xs k i
      have hr2 := mkN_rng Nws.mk2 Nws.mk2_c xs k (i + 1)
      have hw3 : IntKind.i64.wrap ((i : Int) + 1) = ((i + 1 : Nat) : Int) := by rw [wrap64 (by omega) (by omega)]; omega
      have hset : (midL (mkL Nws.mk2 xs k).1 xs i).modify i (fun x => ⟨mkN Nws.mk2 xs k i, mkN Nws.mk2 xs k i + 1⟩) = midL (mkL Nws.mk2 xs k).1 xs (i + 1) := midL_mod (by omega) hM.symm hs.2.symm
      have hs1 := hs.1
      simp only [Nws.mk2] at hs1
      obtain ⟨K, hK⟩ : ∃ K, K = mkN Nws.mk2 xs k i := ⟨_, rfl⟩
      rw [← hK] at hs hs1 hr ⊢
      have w1 : IntKind.i64.wrap (K + 1) = K + 1 := wrap64 (by omega) (by omega)
      have w2 : IntKind.i64.wrap (K + 2) = K + 2 := wrap64 (by omega) (by omega)
      have w3 : IntKind.i64.wrap (K + 1 + 1) = K + 2 := by rw [wrap64 (by omega) (by omega)]; omega
      have w4 : IntKind.i64.wrap (K + 2 + 1) = K + 3 := by rw [wrap64 (by omega) (by omega)]; omega
      have w5 : IntKind.i64.wrap (K + 3 + 1) = K + 4 := by rw [wrap64 (by omega) (by omega)]; omega
      rw [← hK] at hset
      simp only [go_sem, h0, h3, hml, hlt, hw3, w1, w3, w4, w5]
      refine again_intro (i + 1) (by omega) (by omega) ?_
      simp only [go_sem, hset, hs1]
      try trivial
    · simp only [go_sem]
      have : i = xs.length := by omega
      subst this
      have e : midL (mkL Nws.mk2 xs k).1 xs xs.length = (mkL Nws.mk2 xs k).1 := by
        have := midL_all (mkL Nws.mk2 xs k).1 hM.symm
        rwa [hM] at this
      rw [mkN_all, e]
      simp only [go_sem]
      try trivial
theorem ok95 (xs : List Nws) (k : Int) (h1 : 0 ≤ k) (h2 : k + (tot (fun _ => 2) xs : Nat) ≤ 4611686018427387904) :
    VCalls gz 95 [.lst false 2 ((mkL Nws.mk2 xs k).1.map Nws.enc), .lit (.int .i64 k)] none (fun y _ => y = .lit (.int .i64 (mkL Nws.mk2 xs k).2)) := by
  refine VCalls.go (nt := 31) (keep := [0, 1, 4, 5, 9, 18, 27]) (muts := []) (mvs := []) [] f95_at rfl (by kernel_rfl) rfl (by kernel_rfl) rfl (fun i h => by cases h) rfl ?_
  intro hok
  simp only [go_sem] at hok
  simp only [Tryz.f95, Func.code, Option.getD_some]
  simp only [go_sem]
  have hM := mkL_length Nws.mk2 xs k
  refine vm_loopK (α := Nat) (fun i => [(0, .lst false 2 ((mkL Nws.mk2 xs k).1.map Nws.enc)), (1, .lit (.int .i64 (mkN Nws.mk2 xs k i))), (4, .lit (.int .i64 0)), (5, .lit (.int .i64 i))]) (fun i => i ≤ xs.length) (fun i => xs.length - i) 0 ?_ (by omega) (by kernel_rfl) (fun _ => rfl) ?_
  · simp only [go_sem, mkN_zero]
    try trivial
  · intro i hi hk
    simp only [go_sem, hM]
    intro _
    first | refine branch_ndec (fun h3 => ?_) (fun h3 => ?_) | refine branch_dec (fun h3 => ?_) (fun h3 => ?_) | refine branch_nbool (fun h3 => ?_) (fun h3 => ?_) | refine branch_split (fun h3 => ?_) (fun h3 => ?_)
    · have hlt : i < xs.length := by omega
      have h0 : (0 : Int) ≤ (i : Int) := by omega
      have hs := mkN_succ Nws.mk2 xs k i hlt
      have hr := mkN_rng Nws.mk2 Nws.mk2_c xs k i
      have hr2 := mkN_rng Nws.mk2 Nws.mk2_c xs k (i + 1)
      have hw3 : IntKind.i64.wrap ((i : Int) + 1) = ((i + 1 : Nat) : Int) := by rw [wrap64 (by omega) (by omega)]; omega
      have hs1 := hs.1
      simp only [Nws.mk2] at hs1
      obtain ⟨K, hK⟩ : ∃ K, K = mkN Nws.mk2 xs k i := ⟨_, rfl⟩
      rw [← hK] at hs hs1 hr ⊢
      have w1 : IntKind.i64.wrap (K + 1) = K + 1 := wrap64 (by omega) (by omega)
      have w2 : IntKind.i64.wrap (K + 2) = K + 2 := wrap64 (by omega) (by omega)
      have w3 : IntKind.i64.wrap (K + 1 + 1) = K + 2 := by rw [wrap64 (by omega) (by omega)]; omega
      have w4 : IntKind.i64.wrap (K + 2 + 1) = K + 3 := by rw [wrap64 (by omega) (by omega)]; omega
      have w5 : IntKind.i64.wrap (K + 3 + 1) = K + 4 := by rw [wrap64 (by omega) (by omega)]; omega
      have hv : (mkL Nws.mk2 xs k).1.getD i default = ⟨K, K + 1⟩ := hs.2
      simp only [go_sem, h0, h3, hM, hlt, hv, hw3, w1, w3, w4, w5]
      repeat' refine And.intro ?_ ?_
      all_goals
        refine again_intro (i + 1) (by omega) (by omega) ?_
        simp only [go_sem, hs1]
        try trivial
    · simp only [go_sem]
      have : i = xs.length := by omega
      subst this
      rw [mkN_all]
end Go.VS

set_option linter.unusedSimpArgs false
set_option linter.unusedVariables false
open Go.Proofs
set_option maxRecDepth 20000
namespace Go.VS
theorem f80_at : gz.P.funcs[80]? = some Tryz.f80 := by
  have h : Tryz.prog.funcs[80]? = some Tryz.f80 := by kernel_rfl
  exact h
theorem f93_at : gz.P.funcs[93]? = some Tryz.f93 := by
  have h : Tryz.prog.funcs[93]? = some Tryz.f93 := by kernel_rfl
  exact h
theorem f23_at : gz.P.funcs[23]? = some Tryz.f23 := by
  have h : Tryz.prog.funcs[23]? = some Tryz.f23 := by kernel_rfl
  exact h
theorem f24_at : gz.P.funcs[24]? = some Tryz.f24 := by
  have h : Tryz.prog.funcs[24]? = some Tryz.f24 := by kernel_rfl
  exact h
theorem mkL_rng {α : Type} (f : α → Int → α × Int) {w : α → Nat} (h : mkC f w) (xs : List α) (k : Int) : (mkL f xs k).2 = k + (tot w xs : Nat) := by
  have := mkN_add f h xs k xs.length
  rw [mkN_all, List.take_length] at this
  exact this
theorem tot_const {α : Type} (c : Nat) (xs : List α) : tot (fun _ => c) xs = xs.length * c := by
  unfold tot
  induction xs with
  | nil => simp
  | cons x xs ih => simp only [List.map_cons, List.sum_cons, List.length_cons, ih, Nat.add_mul, Nat.one_mul]; omega
def iM (xs : List Int) (k : Int) : List Int := (mkL intM xs k).1
def sM (xs : List ByteArray) (k : Int) : List ByteArray := (mkL strM xs k).1
theorem iM_snd (xs : List Int) (k : Int) : (mkL intM xs k).2 = k + (xs.length : Int) := by rw [mkL_rng _ intM_c, tot_const]; simp
theorem sM_snd (xs : List ByteArray) (k : Int) : (mkL strM xs k).2 = k + (xs.length : Int) := by rw [mkL_rng _ strM_c, tot_const]; simp
theorem iM_len (xs : List Int) (k : Int) : (iM xs k).length = xs.length := mkL_length _ _ _
theorem sM_len (xs : List ByteArray) (k : Int) : (sM xs k).length = xs.length := mkL_length _ _ _
theorem okI83 (xs : List Int) (k : Int) (h1 : 0 ≤ k) (h2 : k + xs.length ≤ 4611686018427387904) :
    VMut gz 83 [.lst true 1 (xs.map intA), .lit (.int .i64 k)] 0 (fun y x' => y = .lit (.int .i64 (k + xs.length)) ∧ x' = .lst true 1 ((iM xs k).map intA)) := by
  have := ok83 xs k h1 (by rw [tot_const]; omega)
  rwa [iM_snd] at this
theorem okI85 (xs : List Int) (k : Int) (h1 : 0 ≤ k) (h2 : k + xs.length ≤ 4611686018427387904) :
    VCalls gz 85 [.lst false 1 ((iM xs k).map intA), .lit (.int .i64 k)] none (fun y _ => y = .lit (.int .i64 (k + xs.length))) := by
  have := ok85 xs k h1 (by rw [tot_const]; omega)
  rwa [iM_snd] at this
theorem okI84 (xs : List ByteArray) (k : Int) (h1 : 0 ≤ k) (h2 : k + xs.length ≤ 4611686018427387904) :
    VMut gz 84 [.lst true 1 (xs.map strA), .lit (.int .i64 k)] 0 (fun y x' => y = .lit (.int .i64 (k + xs.length)) ∧ x' = .lst true 1 ((sM xs k).map strA)) := by
  have := ok84 xs k h1 (by rw [tot_const]; omega)
  rwa [sM_snd] at this
theorem okI86 (xs : List ByteArray) (k : Int) (h1 : 0 ≤ k) (h2 : k + xs.length ≤ 4611686018427387904) :
    VCalls gz 86 [.lst false 1 ((sM xs k).map strA), .lit (.int .i64 k)] none (fun y _ => y = .lit (.int .i64 (k + xs.length))) := by
  have := ok86 xs k h1 (by rw [tot_const]; omega)
  rwa [sM_snd] at this
theorem tot_getD {α : Type} [Inhabited α] {w : α → Nat} {xs : List α} {i : Nat} (h : i < xs.length) (k : Int) {f : α → Int → α × Int} (hf : mkC f w) : mkN f xs k i + (w (xs.getD i default) : Nat) ≤ k + (tot w xs : Nat) := by
  have h1 := (mkN_succ f xs k i h).1
  have h2 := (mkN_rng f hf xs k (i + 1)).2
  rw [hf] at h1
  omega
/-- the marks of a proof's lists -/
def Prf.mw (p : Prf) : Nat := p.bys.length + p.tags.length
def Prf.mkP (p : Prf) (k : Int) : Prf × Int := (⟨p.view, p.name, iM p.bys k, iM p.tags (k + p.bys.length)⟩, k + p.mw)
theorem ok80 (p : Prf) (k : Int) (h1 : 0 ≤ k) (h2 : k + (p.mw : Nat) ≤ 4611686018427387904) :
    VMut gz 80 [p.enc true, .lit (.int .i64 k)] 0 (fun y x' => y = .lit (.int .i64 (p.mkP k).2) ∧ x' = (p.mkP k).1.enc true) := by
  have h2' : k + ((p.bys.length + p.tags.length : Nat) : Int) ≤ 4611686018427387904 := h2
  refine VMut.go (nt := 14) (keep := [0, 1, 2, 4]) (i := 0) (mvs := []) [] f80_at rfl (by kernel_rfl) rfl (by kernel_rfl) rfl rfl rfl ?_
  intro hok
  simp only [go_sem] at hok
  simp only [Tryz.f80, Func.code, Option.getD_some]
  simp only [go_sem]
  refine call_give 0 0 [.fld 2] rfl rfl rfl (by simp only [go_sem]; rfl) (by simp only [go_sem, List.getElem?_cons_zero, List.getElem?_cons_succ]) (by simp only [go_sem]) (by simp only [go_sem]) (by simp only [go_sem]) ?_
  simp only [go_sem, List.set]
  refine callW.eq (okI83 p.bys k h1 (by omega)) ?_
  simp only [go_sem]
  refine ⟨iM_len _ _, ?_⟩
  refine call_give 0 0 [.fld 3] rfl rfl rfl (by simp only [go_sem]; rfl) (by simp only [go_sem, List.getElem?_cons_zero, List.getElem?_cons_succ]) (by simp only [go_sem]) (by simp only [go_sem]) (by simp only [go_sem]) ?_
  simp only [go_sem, List.set]
  refine callW.eq (okI83 p.tags (k + p.bys.length) (by omega) (by omega)) ?_
  simp only [go_sem]
  refine ⟨iM_len _ _, ?_⟩
  have : k + (p.bys.length : Int) + (p.tags.length : Int) = k + (p.mw : Int) := by unfold Prf.mw; omega
  simp only [Prf.mkP, this]
  try trivial
theorem ok93 (p : Prf) (k : Int) (h1 : 0 ≤ k) (h2 : k + (p.mw : Nat) ≤ 4611686018427387904) :
    VCalls gz 93 [(p.mkP k).1.enc false, .lit (.int .i64 k)] none (fun y _ => y = .lit (.int .i64 (p.mkP k).2)) := by
  have h2' : k + ((p.bys.length + p.tags.length : Nat) : Int) ≤ 4611686018427387904 := h2
  have e : p.mkP k = (⟨p.view, p.name, iM p.bys k, iM p.tags (k + p.bys.length)⟩, k + p.mw) := rfl
  have this : k + (p.bys.length : Int) + (p.tags.length : Int) = k + (p.mw : Int) := by unfold Prf.mw; omega
  rw [e]
  refine VCalls.go (nt := 18) (keep := [0, 1, 2, 4, 10, 16]) (muts := []) (mvs := []) [] f93_at rfl (by kernel_rfl) rfl (by kernel_rfl) rfl (fun i h => by cases h) rfl ?_
  intro hok
  simp only [go_sem] at hok
  simp only [Tryz.f93, Func.code, Option.getD_some]
  simp only [go_sem]
  refine call_lend ?_
  simp only [go_sem]
  refine callN.eq (okI85 p.bys k h1 (by omega)) (by simp only [go_sem]) ?_
  simp only [go_sem]
  have n1 : ¬ (k + (p.bys.length : Int) < 0) := by omega
  simp only [go_sem, n1]
  refine call_lend ?_
  simp only [go_sem]
  refine callN.eq (okI85 p.tags (k + p.bys.length) (by omega) (by omega)) (by simp only [go_sem]) ?_
  simp only [go_sem]
  have n2 : ¬ (k + (p.mw : Int) < 0) := by omega
  simp only [go_sem, this, n2]
theorem Blk.put0 {xs : List Blk} {o : Bool} {i : Nat} {a : Int} : (xs.map (Blk.enc o)).modify i (putF [0] (.lit (.int .i64 a))) = (xs.modify i (fun p => { p with view := a })).map (Blk.enc o) := modify_flds _ fun x => rfl
theorem Blk.put1 {xs : List Blk} {o : Bool} {i : Nat} {a : Int} : (xs.map (Blk.enc o)).modify i (putF [1] (.lit (.int .i64 a))) = (xs.modify i (fun p => { p with parent := a })).map (Blk.enc o) := modify_flds _ fun x => rfl
theorem Blk.put20 {xs : List Blk} {o : Bool} {i : Nat} {a : Int} : (xs.map (Blk.enc o)).modify i (putF [2, 0] (.lit (.int .i64 a))) = (xs.modify i (fun p => { p with proof := { p.proof with view := a } })).map (Blk.enc o) := modify_flds _ fun x => rfl
theorem Blk.put21 {xs : List Blk} {o : Bool} {i : Nat} {a : Int} : (xs.map (Blk.enc o)).modify i (putF [2, 1] (.lit (.int .i64 a))) = (xs.modify i (fun p => { p with proof := { p.proof with name := a } })).map (Blk.enc o) := modify_flds _ fun x => rfl
theorem Blk.put4 {xs : List Blk} {o : Bool} {i : Nat} {a : Int} : (xs.map (Blk.enc o)).modify i (putF [4] (.lit (.int .i64 a))) = (xs.modify i (fun p => { p with bY := a })).map (Blk.enc o) := modify_flds _ fun x => rfl
theorem Blk.putL22 {xs : List Blk} {i : Nat} {ys : List Int} : (xs.map (Blk.enc true)).modify i (putP [.fld 2, .fld 2] (.lst true 1 (ys.map intA))) = (xs.modify i (fun p => { p with proof := { p.proof with bys := ys } })).map (Blk.enc true) := modify_flds _ fun x => rfl
theorem Blk.putL23 {xs : List Blk} {i : Nat} {ys : List Int} : (xs.map (Blk.enc true)).modify i (putP [.fld 2, .fld 3] (.lst true 1 (ys.map intA))) = (xs.modify i (fun p => { p with proof := { p.proof with tags := ys } })).map (Blk.enc true) := modify_flds _ fun x => rfl
theorem Blk.putL3 {xs : List Blk} {i : Nat} {ys : List ByteArray} : (xs.map (Blk.enc true)).modify i (putP [.fld 3] (.lst true 1 (ys.map strA))) = (xs.modify i (fun p => { p with moves := ys })).map (Blk.enc true) := modify_flds _ fun x => rfl
attribute [go_sem] putP_lst Blk.put0 Blk.put1 Blk.put20 Blk.put21 Blk.put4 Blk.putL22 Blk.putL23 Blk.putL3
theorem getD_mod {L : List Blk} {i : Nat} {B : Blk} (h : i < L.length) (hb : L.getD i default = B) (f : Blk → Blk) : (L.modify i f).getD i default = f B := by
  simp [List.getD, List.getElem?_modify, h] at hb ⊢
  rw [hb]
/-- the marks of a block in a list -/
def Blk.mw (b : Blk) : Nat := 5 + b.proof.bys.length + b.proof.tags.length + b.moves.length
def Blk.mkB (b : Blk) (k : Int) : Blk × Int := (⟨k, k + 1, ⟨k + 2, k + 3, iM b.proof.bys (k + 4), iM b.proof.tags (k + 4 + b.proof.bys.length)⟩, sM b.moves (k + 4 + b.proof.bys.length + b.proof.tags.length), k + 4 + b.proof.bys.length + b.proof.tags.length + b.moves.length⟩, k + b.mw)
theorem Blk.mkB_c : mkC Blk.mkB Blk.mw := fun x k => rfl
theorem ok24 (xs : List Blk) (k : Int) (h1 : 0 ≤ k) (h2 : k + (tot Blk.mw xs : Nat) ≤ 4611686018427387904) :
    VCalls gz 24 [.lst false 8 ((mkL Blk.mkB xs k).1.map (Blk.enc false)), .lit (.int .i64 k)] none (fun y _ => y = .lit (.int .i64 (mkL Blk.mkB xs k).2)) := by
  refine VCalls.go (nt := 89) (keep := [0, 1, 4, 5, 9, 18, 27, 37, 47, 59, 69, 78, 85]) (muts := []) (mvs := []) [] f24_at rfl (by kernel_rfl) rfl (by kernel_rfl) rfl (fun i h => by cases h) rfl ?_
  intro hok
  simp only [go_sem] at hok
  simp only [Tryz.f24, Func.code, Option.getD_some]
  simp only [go_sem]
  have hM := mkL_length Blk.mkB xs k
  refine vm_loopK (α := Nat) (fun i => [(0, .lst false 8 ((mkL Blk.mkB xs k).1.map (Blk.enc false))), (1, .lit (.int .i64 (mkN Blk.mkB xs k i))), (4, .lit (.int .i64 0)), (5, .lit (.int .i64 i))]) (fun i => i ≤ xs.length) (fun i => xs.length - i) 0 ?_ (by omega) (by kernel_rfl) (fun _ => rfl) ?_
  · simp only [go_sem, mkN_zero]
    try trivial
  · intro i hi hk
    simp only [go_sem, hM]
    intro _
    first | refine branch_ndec (fun h3 => ?_) (fun h3 => ?_) | refine branch_dec (fun h3 => ?_) (fun h3 => ?_) | refine branch_nbool (fun h3 => ?_) (fun h3 => ?_) | refine branch_split (fun h3 => ?_) (fun h3 => ?_)
    · have hlt : i < xs.length := by omega
      have h0 : (0 : Int) ≤ (i : Int) := by omega
      have hs := mkN_succ Blk.mkB xs k i hlt
      have hr := mkN_rng Blk.mkB Blk.mkB_c xs k i
      have hr2 := mkN_rng Blk.mkB Blk.mkB_c xs k (i + 1)
      have hw3 : IntKind.i64.wrap ((i : Int) + 1) = ((i + 1 : Nat) : Int) := by rw [wrap64 (by omega) (by omega)]; omega
      have hmi := tot_getD (w := Blk.mw) hlt k Blk.mkB_c
      have hmw : (xs.getD i default).mw = 5 + (xs.getD i default).proof.bys.length + (xs.getD i default).proof.tags.length + (xs.getD i default).moves.length := rfl
      obtain ⟨B, hB⟩ : ∃ B, B = xs.getD i default := ⟨_, rfl⟩
      obtain ⟨K, hK⟩ : ∃ K, K = mkN Blk.mkB xs k i := ⟨_, rfl⟩
      rw [← hB] at hmw hmi hs
      rw [← hK] at hs hr hmi ⊢
      have hs1 : mkN Blk.mkB xs k (i + 1) = K + B.mw := hs.1
      have hv : (mkL Blk.mkB xs k).1.getD i default = ⟨K, K + 1, ⟨K + 2, K + 3, iM B.proof.bys (K + 4), iM B.proof.tags (K + 4 + B.proof.bys.length)⟩, sM B.moves (K + 4 + B.proof.bys.length + B.proof.tags.length), K + 4 + B.proof.bys.length + B.proof.tags.length + B.moves.length⟩ := hs.2
      have w1 : IntKind.i64.wrap (K + 1) = K + 1 := wrap64 (by omega) (by omega)
      have w3 : IntKind.i64.wrap (K + 1 + 1) = K + 2 := by rw [wrap64 (by omega) (by omega)]; omega
      have w4 : IntKind.i64.wrap (K + 2 + 1) = K + 3 := by rw [wrap64 (by omega) (by omega)]; omega
      have w5 : IntKind.i64.wrap (K + 3 + 1) = K + 4 := by rw [wrap64 (by omega) (by omega)]; omega
      have w9 : IntKind.i64.wrap (K + 4 + B.proof.bys.length + B.proof.tags.length + B.moves.length + 1) = K + B.mw := by rw [wrap64 (by omega) (by omega)]; omega
      simp only [go_sem, h0, h3, hM, hlt, hv, hw3, w1, w3, w4, w5]
      repeat' refine And.intro ?_ ?_
      all_goals
        refine call_lend ?_
        simp only [go_sem]
        refine callN.eq (okI85 B.proof.bys (K + 4) (by omega) (by omega)) (by simp only [go_sem]) ?_
        simp only [go_sem]
        have n1 : ¬ (K + 4 + (B.proof.bys.length : Int) < 0) := by omega
        have n2 : ¬ (K + 4 + (B.proof.bys.length : Int) + (B.proof.tags.length : Int) < 0) := by omega
        have n3 : ¬ (K + 4 + (B.proof.bys.length : Int) + (B.proof.tags.length : Int) + (B.moves.length : Int) < 0) := by omega
        simp only [go_sem, h0, h3, hM, hlt, hv, n1, n2, n3]
        refine call_lend ?_
        simp only [go_sem]
        refine callN.eq (okI85 B.proof.tags (K + 4 + B.proof.bys.length) (by omega) (by omega)) (by simp only [go_sem]) ?_
        simp only [go_sem]
        have n1 : ¬ (K + 4 + (B.proof.bys.length : Int) < 0) := by omega
        have n2 : ¬ (K + 4 + (B.proof.bys.length : Int) + (B.proof.tags.length : Int) < 0) := by omega
        have n3 : ¬ (K + 4 + (B.proof.bys.length : Int) + (B.proof.tags.length : Int) + (B.moves.length : Int) < 0) := by omega
        simp only [go_sem, h0, h3, hM, hlt, hv, n1, n2, n3]
        refine call_lend ?_
        simp only [go_sem]
        refine callN.eq (okI86 B.moves (K + 4 + B.proof.bys.length + B.proof.tags.length) (by omega) (by omega)) (by simp only [go_sem]) ?_
        simp only [go_sem]
        have n1 : ¬ (K + 4 + (B.proof.bys.length : Int) < 0) := by omega
        have n2 : ¬ (K + 4 + (B.proof.bys.length : Int) + (B.proof.tags.length : Int) < 0) := by omega
        have n3 : ¬ (K + 4 + (B.proof.bys.length : Int) + (B.proof.tags.length : Int) + (B.moves.length : Int) < 0) := by omega
        simp only [go_sem, h0, h3, hM, hlt, hv, n1, n2, n3]
        simp only [go_sem, hw3, w9]
        refine again_intro (i + 1) (by omega) (by omega) ?_
        simp only [go_sem, hs1]
        try trivial
    · simp only [go_sem]
      have : i = xs.length := by omega
      subst this
      rw [mkN_all]
theorem ok23 (xs : List Blk) (k : Int) (h1 : 0 ≤ k) (h2 : k + (tot Blk.mw xs : Nat) ≤ 4611686018427387904) :
    VMut gz 23 [.lst true 8 (xs.map (Blk.enc true)), .lit (.int .i64 k)] 0 (fun y x' => y = .lit (.int .i64 (mkL Blk.mkB xs k).2) ∧ x' = .lst true 8 ((mkL Blk.mkB xs k).1.map (Blk.enc true))) := by
  refine VMut.go (nt := 73) (keep := [0, 1, 4, 5, 9]) (i := 0) (mvs := []) [] f23_at rfl (by kernel_rfl) rfl (by kernel_rfl) rfl rfl rfl ?_
  intro hok
  simp only [go_sem] at hok
  simp only [Tryz.f23, Func.code, Option.getD_some]
  simp only [go_sem]
  have hM := mkL_length Blk.mkB xs k
  refine vm_loopK (α := Nat) (fun i => [(0, .lst true 8 ((midL (mkL Blk.mkB xs k).1 xs i).map (Blk.enc true))), (1, .lit (.int .i64 (mkN Blk.mkB xs k i))), (4, .lit (.int .i64 0)), (5, .lit (.int .i64 i))]) (fun i => i ≤ xs.length) (fun i => xs.length - i) 0 ?_ (by omega) (by kernel_rfl) (fun _ => rfl) ?_
  · simp only [go_sem, midL_zero, mkN_zero]
    try trivial
  · intro i hi hk
    have hml : (midL (mkL Blk.mkB xs k).1 xs i).length = xs.length := (midL_length (by omega) hM.symm).trans hM
    simp only [go_sem, hml]
    intro _
    first | refine branch_ndec (fun h3 => ?_) (fun h3 => ?_) | refine branch_dec (fun h3 => ?_) (fun h3 => ?_) | refine branch_nbool (fun h3 => ?_) (fun h3 => ?_) | refine branch_split (fun h3 => ?_) (fun h3 => ?_)
    · have hlt : i < xs.length := by omega
      have h0 : (0 : Int) ≤ (i : Int) := by omega
      have hs := mkN_succ Blk.mkB xs k i hlt
      have hr := mkN_rng Blk.mkB Blk.mkB_c xs k i
      have hr2 := mkN_rng Blk.mkB Blk.mkB_c xs k (i + 1)
      have hw3 : IntKind.i64.wrap ((i : Int) + 1) = ((i + 1 : Nat) : Int) := by rw [wrap64 (by omega) (by omega)]; omega
      have hb : (midL (mkL Blk.mkB xs k).1 xs i).getD i default = xs.getD i default := midL_get (by omega) hM.symm
      have hmi := tot_getD (w := Blk.mw) hlt k Blk.mkB_c
      have hmw : (xs.getD i default).mw = 5 + (xs.getD i default).proof.bys.length + (xs.getD i default).proof.tags.length + (xs.getD i default).moves.length := rfl
      obtain ⟨B, hB⟩ : ∃ B, B = xs.getD i default := ⟨_, rfl⟩
      obtain ⟨K, hK⟩ : ∃ K, K = mkN Blk.mkB xs k i := ⟨_, rfl⟩
      rw [← hB] at hb hmw hmi hs
      rw [← hK] at hs hr hmi ⊢
      have hs1 : mkN Blk.mkB xs k (i + 1) = K + B.mw := hs.1
      have hset : (midL (mkL Blk.mkB xs k).1 xs i).modify i (fun _ => (B.mkB K).1) = midL (mkL Blk.mkB xs k).1 xs (i + 1) := midL_mod (by omega) hM.symm hs.2.symm
      have w1 : IntKind.i64.wrap (K + 1) = K + 1 := wrap64 (by omega) (by omega)
      have w3 : IntKind.i64.wrap (K + 1 + 1) = K + 2 := by rw [wrap64 (by omega) (by omega)]; omega
      have w4 : IntKind.i64.wrap (K + 2 + 1) = K + 3 := by rw [wrap64 (by omega) (by omega)]; omega
      have w5 : IntKind.i64.wrap (K + 3 + 1) = K + 4 := by rw [wrap64 (by omega) (by omega)]; omega
      obtain ⟨L, hL⟩ : ∃ L, L = midL (mkL Blk.mkB xs k).1 xs i := ⟨_, rfl⟩
      rw [← hL] at hml hb hset ⊢
      have hgd := getD_mod (by omega) hb
      have hge : ∀ f : Blk → Blk, (List.map (Blk.enc true) (L.modify i f))[i]? = some (Blk.enc true (f B)) := fun f => by
        have hlm : i < (L.modify i f).length := by rw [List.length_modify]; omega
        have h9 := hgd f
        simp only [List.getD, List.getElem?_eq_getElem hlm, Option.getD_some] at h9
        simp only [List.getElem?_map, List.getElem?_eq_getElem hlm, Option.map_some, h9]
      simp only [go_sem, h0, h3, hml, hlt, hw3, w1, w3, w4, w5, hgd]
      refine call_give 0 0 [.idx i, .fld 2, .fld 2] (x := .lst true 1 (B.proof.bys.map intA)) rfl rfl rfl (by simp only [go_sem, hge]) (by simp only [go_sem, List.getElem?_cons_zero, List.getElem?_cons_succ]) (by simp only [go_sem]) (by simp only [go_sem]) (by simp only [go_sem]) ?_
      simp only [go_sem, List.set]
      refine callW.eq (okI83 B.proof.bys (K + 4) (by omega) (by omega)) ?_
      simp only [go_sem, hgd, h0, h3, hml, hlt, hw3, w1, w3, w4, w5]
      refine ⟨iM_len _ _, ?_⟩
      refine call_give 0 0 [.idx i, .fld 2, .fld 3] (x := .lst true 1 (B.proof.tags.map intA)) rfl rfl rfl (by simp only [go_sem, hge]) (by simp only [go_sem, List.getElem?_cons_zero, List.getElem?_cons_succ]) (by simp only [go_sem]) (by simp only [go_sem]) (by simp only [go_sem]) ?_
      simp only [go_sem, List.set]
      refine callW.eq (okI83 B.proof.tags (K + 4 + B.proof.bys.length) (by omega) (by omega)) ?_
      simp only [go_sem, hgd, h0, h3, hml, hlt, hw3, w1, w3, w4, w5]
      refine ⟨iM_len _ _, ?_⟩
      refine call_give 0 0 [.idx i, .fld 3] (x := .lst true 1 (B.moves.map strA)) rfl rfl rfl (by simp only [go_sem, hge]) (by simp only [go_sem, List.getElem?_cons_zero, List.getElem?_cons_succ]) (by simp only [go_sem]) (by simp only [go_sem]) (by simp only [go_sem]) ?_
      simp only [go_sem, List.set]
      refine callW.eq (okI84 B.moves (K + 4 + B.proof.bys.length + B.proof.tags.length) (by omega) (by omega)) ?_
      simp only [go_sem, hgd, h0, h3, hml, hlt, hw3, w1, w3, w4, w5]
      refine ⟨sM_len _ _, ?_⟩
      have w9 : IntKind.i64.wrap (K + 4 + B.proof.bys.length + B.proof.tags.length + B.moves.length + 1) = K + B.mw := by rw [wrap64 (by omega) (by omega)]; omega
      simp only [go_sem, w9]
      refine again_intro (i + 1) (by omega) (by omega) ?_
      simp only [go_sem, hs1]
      exact congrArg (List.map (Blk.enc true)) hset
    · simp only [go_sem]
      have : i = xs.length := by omega
      subst this
      have e : midL (mkL Blk.mkB xs k).1 xs xs.length = (mkL Blk.mkB xs k).1 := by
        have := midL_all (mkL Blk.mkB xs k).1 hM.symm
        rwa [hM] at this
      rw [mkN_all, e]
      simp only [go_sem]
      try trivial
end Go.VS

set_option linter.unusedSimpArgs false
set_option linter.unusedVariables false
open Go.Proofs
set_option maxRecDepth 20000
namespace Go.VS
theorem f22_at : gz.P.funcs[22]? = some Tryz.f22 := by
  have h : Tryz.prog.funcs[22]? = some Tryz.f22 := by kernel_rfl
  exact h
theorem f31_at : gz.P.funcs[31]? = some Tryz.f31 := by
  have h : Tryz.prog.funcs[31]? = some Tryz.f31 := by kernel_rfl
  exact h
def bM (xs : List Blk) (k : Int) : List Blk := (mkL Blk.mkB xs k).1
def vM (xs : List Vot) (k : Int) : List Vot := (mkL Vot.mk4 xs k).1
def nM (xs : List Nws) (k : Int) : List Nws := (mkL Nws.mk2 xs k).1
def bT (xs : List Blk) : Nat := tot Blk.mw xs
theorem bM_snd (xs : List Blk) (k : Int) : (mkL Blk.mkB xs k).2 = k + (bT xs : Int) := mkL_rng _ Blk.mkB_c xs k
theorem vM_snd (xs : List Vot) (k : Int) : (mkL Vot.mk4 xs k).2 = k + ((xs.length * 4 : Nat) : Int) := by rw [mkL_rng _ Vot.mk4_c, tot_const]
theorem nM_snd (xs : List Nws) (k : Int) : (mkL Nws.mk2 xs k).2 = k + ((xs.length * 2 : Nat) : Int) := by rw [mkL_rng _ Nws.mk2_c, tot_const]
theorem bM_len (xs : List Blk) (k : Int) : (bM xs k).length = xs.length := mkL_length _ _ _
theorem vM_len (xs : List Vot) (k : Int) : (vM xs k).length = xs.length := mkL_length _ _ _
theorem nM_len (xs : List Nws) (k : Int) : (nM xs k).length = xs.length := mkL_length _ _ _
theorem okI23 (xs : List Blk) (k : Int) (h1 : 0 ≤ k) (h2 : k + (bT xs : Int) ≤ 4611686018427387904) :
    VMut gz 23 [.lst true 8 (xs.map (Blk.enc true)), .lit (.int .i64 k)] 0 (fun y x' => y = .lit (.int .i64 (k + (bT xs : Int))) ∧ x' = .lst true 8 ((bM xs k).map (Blk.enc true))) := by
  have := ok23 xs k h1 h2
  rwa [bM_snd] at this
theorem okI24 (xs : List Blk) (k : Int) (h1 : 0 ≤ k) (h2 : k + (bT xs : Int) ≤ 4611686018427387904) :
    VCalls gz 24 [.lst false 8 ((bM xs k).map (Blk.enc false)), .lit (.int .i64 k)] none (fun y _ => y = .lit (.int .i64 (k + (bT xs : Int)))) := by
  have := ok24 xs k h1 h2
  rwa [bM_snd] at this
theorem okI81 (xs : List Vot) (k : Int) (h1 : 0 ≤ k) (h2 : k + ((xs.length * 4 : Nat) : Int) ≤ 4611686018427387904) :
    VMut gz 81 [.lst true 4 (xs.map Vot.enc), .lit (.int .i64 k)] 0 (fun y x' => y = .lit (.int .i64 (k + ((xs.length * 4 : Nat) : Int))) ∧ x' = .lst true 4 ((vM xs k).map Vot.enc)) := by
  have := ok81 xs k h1 (by rw [tot_const]; exact h2)
  rwa [vM_snd] at this
theorem okI94 (xs : List Vot) (k : Int) (h1 : 0 ≤ k) (h2 : k + ((xs.length * 4 : Nat) : Int) ≤ 4611686018427387904) :
    VCalls gz 94 [.lst false 4 ((vM xs k).map Vot.enc), .lit (.int .i64 k)] none (fun y _ => y = .lit (.int .i64 (k + ((xs.length * 4 : Nat) : Int)))) := by
  have := ok94 xs k h1 (by rw [tot_const]; exact h2)
  rwa [vM_snd] at this
theorem okI82 (xs : List Nws) (k : Int) (h1 : 0 ≤ k) (h2 : k + ((xs.length * 2 : Nat) : Int) ≤ 4611686018427387904) :
    VMut gz 82 [.lst true 2 (xs.map Nws.enc), .lit (.int .i64 k)] 0 (fun y x' => y = .lit (.int .i64 (k + ((xs.length * 2 : Nat) : Int))) ∧ x' = .lst true 2 ((nM xs k).map Nws.enc)) := by
  have := ok82 xs k h1 (by rw [tot_const]; exact h2)
  rwa [nM_snd] at this
theorem okI95 (xs : List Nws) (k : Int) (h1 : 0 ≤ k) (h2 : k + ((xs.length * 2 : Nat) : Int) ≤ 4611686018427387904) :
    VCalls gz 95 [.lst false 2 ((nM xs k).map Nws.enc), .lit (.int .i64 k)] none (fun y _ => y = .lit (.int .i64 (k + ((xs.length * 2 : Nat) : Int)))) := by
  have := ok95 xs k h1 (by rw [tot_const]; exact h2)
  rwa [nM_snd] at this
/-- the marks of a replica -/
def Rpl.k1 (r : Rpl) (k : Int) : Int := k + (r.high.mw : Int)
def Rpl.k2 (r : Rpl) (k : Int) : Int := r.k1 k + (bT r.blocks : Int)
def Rpl.k3 (r : Rpl) (k : Int) : Int := r.k2 k + ((r.votes.length * 4 : Nat) : Int)
def Rpl.k4 (r : Rpl) (k : Int) : Int := r.k3 k + ((r.news.length * 2 : Nat) : Int)
def Rpl.k5 (r : Rpl) (k : Int) : Int := r.k4 k + (r.done.length : Int)
def Rpl.mkR (r : Rpl) (k : Int) : Rpl := ⟨r.id, r.n, r.view, r.voted, r.locked, r.proposed, (r.high.mkP k).1, bM r.blocks (r.k1 k), vM r.votes (r.k2 k), nM r.news (r.k3 k), iM r.done (r.k4 k)⟩
theorem ok22 (r : Rpl) (k : Int) (h1 : 0 ≤ k) (h2 : r.k5 k ≤ 4611686018427387904) :
    VMut gz 22 [r.enc true, .lit (.int .i64 k)] 0 (fun y x' => y = .lit (.int .i64 (r.k5 k)) ∧ x' = (r.mkR k).enc true) := by
  have e1 : r.k1 k = k + (r.high.mw : Int) := rfl
  have e2 : r.k2 k = r.k1 k + (bT r.blocks : Int) := rfl
  have e3 : r.k3 k = r.k2 k + ((r.votes.length * 4 : Nat) : Int) := rfl
  have e4 : r.k4 k = r.k3 k + ((r.news.length * 2 : Nat) : Int) := rfl
  have e5 : r.k5 k = r.k4 k + (r.done.length : Int) := rfl
  refine VMut.go (nt := 26) (keep := [0, 1, 2, 4]) (i := 0) (mvs := []) [] f22_at rfl (by kernel_rfl) rfl (by kernel_rfl) rfl rfl rfl ?_
  intro hok
  simp only [go_sem] at hok
  simp only [Tryz.f22, Func.code, Option.getD_some]
  simp only [go_sem]
  refine call_give 0 0 [.fld 6] rfl rfl rfl (by simp only [go_sem]; rfl) (by simp only [go_sem, List.getElem?_cons_zero, List.getElem?_cons_succ]) (by simp only [go_sem]) (by simp only [go_sem]) (by simp only [go_sem]) ?_
  simp only [go_sem, List.set]
  refine callW.eq (ok80 r.high k h1 (by omega)) ?_
  simp only [go_sem]
  have e0 : (r.high.mkP k).2 = r.k1 k := rfl
  rw [e0]
  refine ⟨⟨rfl, rfl, iM_len _ _, iM_len _ _⟩, ?_⟩
  refine call_give 0 0 [.fld 7] rfl rfl rfl (by simp only [go_sem]; rfl) (by simp only [go_sem, List.getElem?_cons_zero, List.getElem?_cons_succ]) (by simp only [go_sem]) (by simp only [go_sem]) (by simp only [go_sem]) ?_
  simp only [go_sem, List.set]
  refine callW.eq (okI23 r.blocks (r.k1 k) (by omega) (by omega)) ?_
  simp only [go_sem]
  rw [← e2]
  refine ⟨bM_len _ _, ?_⟩
  refine call_give 0 0 [.fld 8] rfl rfl rfl (by simp only [go_sem]; rfl) (by simp only [go_sem, List.getElem?_cons_zero, List.getElem?_cons_succ]) (by simp only [go_sem]) (by simp only [go_sem]) (by simp only [go_sem]) ?_
  simp only [go_sem, List.set]
  refine callW.eq (okI81 r.votes (r.k2 k) (by omega) (by omega)) ?_
  simp only [go_sem]
  rw [← e3]
  refine ⟨vM_len _ _, ?_⟩
  refine call_give 0 0 [.fld 9] rfl rfl rfl (by simp only [go_sem]; rfl) (by simp only [go_sem, List.getElem?_cons_zero, List.getElem?_cons_succ]) (by simp only [go_sem]) (by simp only [go_sem]) (by simp only [go_sem]) ?_
  simp only [go_sem, List.set]
  refine callW.eq (okI82 r.news (r.k3 k) (by omega) (by omega)) ?_
  simp only [go_sem]
  rw [← e4]
  refine ⟨nM_len _ _, ?_⟩
  refine call_give 0 0 [.fld 10] rfl rfl rfl (by simp only [go_sem]; rfl) (by simp only [go_sem, List.getElem?_cons_zero, List.getElem?_cons_succ]) (by simp only [go_sem]) (by simp only [go_sem]) (by simp only [go_sem]) ?_
  simp only [go_sem, List.set]
  refine callW.eq (okI83 r.done (r.k4 k) (by omega) (by omega)) ?_
  simp only [go_sem]
  rw [← e5]
  refine ⟨iM_len _ _, ?_⟩
  try trivial
theorem ok31 (r : Rpl) (k : Int) (h1 : 0 ≤ k) (h2 : r.k5 k ≤ 4611686018427387904) :
    VCalls gz 31 [(r.mkR k).enc false, .lit (.int .i64 k)] none (fun y _ => y = .lit (.int .i64 (r.k5 k))) := by
  have e1 : r.k1 k = k + (r.high.mw : Int) := rfl
  have e2 : r.k2 k = r.k1 k + (bT r.blocks : Int) := rfl
  have e3 : r.k3 k = r.k2 k + ((r.votes.length * 4 : Nat) : Int) := rfl
  have e4 : r.k4 k = r.k3 k + ((r.news.length * 2 : Nat) : Int) := rfl
  have e5 : r.k5 k = r.k4 k + (r.done.length : Int) := rfl
  have e0 : (r.high.mkP k).2 = r.k1 k := rfl
  have eR : r.mkR k = ⟨r.id, r.n, r.view, r.voted, r.locked, r.proposed, (r.high.mkP k).1, bM r.blocks (r.k1 k), vM r.votes (r.k2 k), nM r.news (r.k3 k), iM r.done (r.k4 k)⟩ := rfl
  have n1 : ¬ (r.k1 k < 0) := by omega
  have n2 : ¬ (r.k2 k < 0) := by omega
  have n3 : ¬ (r.k3 k < 0) := by omega
  have n4 : ¬ (r.k4 k < 0) := by omega
  have n5 : ¬ (r.k5 k < 0) := by omega
  rw [eR]
  refine VCalls.go (nt := 36) (keep := [0, 1, 2, 4, 10, 16, 22, 28, 34]) (muts := []) (mvs := []) [] f31_at rfl (by kernel_rfl) rfl (by kernel_rfl) rfl (fun i h => by cases h) rfl ?_
  intro hok
  simp only [go_sem] at hok
  simp only [Tryz.f31, Func.code, Option.getD_some]
  simp only [go_sem]
  refine call_lend ?_
  simp only [go_sem]
  refine callN.eq (ok93 r.high k h1 (by omega)) (by simp only [go_sem]) ?_
  simp only [go_sem]
  simp only [go_sem, e0, n1]
  refine call_lend ?_
  simp only [go_sem]
  refine callN.eq (okI24 r.blocks (r.k1 k) (by omega) (by omega)) (by simp only [go_sem]) ?_
  simp only [go_sem]
  simp only [go_sem, ← e2, n2]
  refine call_lend ?_
  simp only [go_sem]
  refine callN.eq (okI94 r.votes (r.k2 k) (by omega) (by omega)) (by simp only [go_sem]) ?_
  simp only [go_sem]
  simp only [go_sem, ← e3, n3]
  refine call_lend ?_
  simp only [go_sem]
  refine callN.eq (okI95 r.news (r.k3 k) (by omega) (by omega)) (by simp only [go_sem]) ?_
  simp only [go_sem]
  simp only [go_sem, ← e4, n4]
  refine call_lend ?_
  simp only [go_sem]
  refine callN.eq (okI85 r.done (r.k4 k) (by omega) (by omega)) (by simp only [go_sem]) ?_
  simp only [go_sem]
  simp only [go_sem, ← e5, n5]
end Go.VS
