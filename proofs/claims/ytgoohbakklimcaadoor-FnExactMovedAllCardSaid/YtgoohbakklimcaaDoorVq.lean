/- VS: functions by the machine. -/
import Derived.Test.YtgoohbakklimcaaDoorVf
import Derived.Test.YtgoohbakklimcaaDoorVg
import Derived.Test.YtgoohbakklimcaaDoorVn
import Derived.Test.YtgoohbakklimcaaDoorVp
set_option linter.unusedSimpArgs false
set_option linter.unusedVariables false
open Go.Proofs
set_option maxRecDepth 20000
namespace Go.VS
theorem modify_strB {i : Nat} {xs : List ByteArray} {v : ByteArray} : (xs.map strA).modify i (putF [] (.lit (.string v))) = (xs.set i v).map strA := modify_enc (f := strA) rfl
attribute [go_sem] modify_strB
theorem f39_at : gz.P.funcs[39]? = some Tryd.f39 := by
  have h : Tryd.prog.funcs[39]? = some Tryd.f39 := by kernel_rfl
  exact h
theorem f15_at : gz.P.funcs[15]? = some Tryd.f15 := by
  have h : Tryd.prog.funcs[15]? = some Tryd.f15 := by kernel_rfl
  exact h
/-- the text of a mark -/
def mtB (k : Int) : ByteArray := if k ≤ 0 then ⟨#[109, 48]⟩ else ⟨#[109]⟩ ++ itoaB k
theorem mtB_size (k : Int) (h : -9223372036854775808 ≤ k ∧ k ≤ 9223372036854775807) : (mtB k).size ≤ 22 := by
  unfold mtB
  split
  · decide
  · rw [ByteArray.size_append]
    have := itoaB_size k h
    have : (⟨#[109]⟩ : ByteArray).size = 1 := rfl
    omega
theorem ok39 (n : Int) : VCalls gz 39 [.lit (.int .i64 n)] none (fun y _ => y = .lit (.string (mtB n))) := by
  refine VCalls.go (nt := 20) (keep := [0, 2, 3, 5, 7]) (muts := []) (mvs := []) [] f39_at rfl (by kernel_rfl) rfl (by kernel_rfl) rfl (fun i h => by cases h) rfl ?_
  intro hok
  simp only [go_sem] at hok
  simp only [Tryd.f39, Func.code, Option.getD_some]
  simp only [go_sem]
  first | refine branch_ndec (fun h1 => ?_) (fun h1 => ?_) | refine branch_dec (fun h1 => ?_) (fun h1 => ?_) | refine branch_nbool (fun h1 => ?_) (fun h1 => ?_) | refine branch_split (fun h1 => ?_) (fun h1 => ?_)
  · have e : mtB n = ⟨#[109, 48]⟩ := if_pos h1
    simp only [go_sem, e]
    try trivial
  · have e : mtB n = ⟨#[109]⟩ ++ itoaB n := if_neg h1
    simp only [go_sem]
    refine vm_loopK (α := Int × ByteArray) (fun q => [(0, .lit (.int .i64 q.1)), (3, .lit (.string q.2)), (2, .lit (.string ⟨#[]⟩))]) (fun q => WInv n q.1 q.2 ∧ (q.2 = ByteArray.empty → q.1 = n)) (fun q => q.1.natAbs) (n, ByteArray.empty) ?_ ⟨⟨fun h => h, fun h => by omega, Nat.le_refl _, .inl ⟨rfl, rfl⟩⟩, fun _ => rfl⟩ (by kernel_rfl) (fun _ => rfl) ?_
    · simp only [go_sem]
      try trivial
    · rintro ⟨m, s⟩ ⟨hi, he⟩ hk
      simp only at hi he
      have hm0 : 0 ≤ m := hi.1 (by omega)
      have hs := WInv.size hi hok
      have hm1 := hi.2.2.1
      simp only [go_sem]
      first | refine branch_ndec (fun h2 => ?_) (fun h2 => ?_) | refine branch_dec (fun h2 => ?_) (fun h2 => ?_) | refine branch_nbool (fun h2 => ?_) (fun h2 => ?_) | refine branch_split (fun h2 => ?_) (fun h2 => ?_)
      · have hb := digit_byte (m := m) (k := m.tmod 10) (by rw [if_neg]; have := tmod_mod hm0 (show (0 : Int) < 10 by omega); omega)
        have hw : IntKind.i64.wrap (m.tdiv 10) = m.tdiv 10 := by
          have ht : (m.tdiv 10).natAbs = m.natAbs / 10 := by rw [Int.natAbs_tdiv]; rfl
          exact wrap64 (by omega) (by omega)
        simp only [go_sem, hb, hw]
        have h0 := hi.step (.inr (by omega)) _ rfl (str_cons (UInt8.ofNat (48 + m.natAbs % 10)) s)
        refine ⟨by show 1 + s.size ≤ 9223372036854775807
                   omega, again_intro (m.tdiv 10, (⟨[UInt8.ofNat (48 + m.natAbs % 10)].toArray⟩ : ByteArray) ++ s) ⟨h0, fun hh => ?_⟩ ?_ ?_⟩
        · have := congrArg ByteArray.size hh
          rw [ByteArray.size_append] at this
          have hz : (⟨[UInt8.ofNat (48 + m.natAbs % 10)].toArray⟩ : ByteArray).size = 1 := rfl
          rw [hz] at this
          simp at this
        · have ht : (m.tdiv 10).natAbs = m.natAbs / 10 := by rw [Int.natAbs_tdiv]; rfl
          simp only
          omega
        · simp only [go_sem]
          try trivial
      · have hm : m = 0 := by omega
        subst hm
        have hne : s ≠ ByteArray.empty := fun hh => by have := he hh; omega
        have hd := hi.done hne
        have e2 : s = itoaB n := by
          apply bext
          have e3 : n.toNat = n.natAbs := by omega
          unfold itoaB Lib.itoa
          rw [if_neg (by omega), e3, hd]
        simp only [go_sem, e]
        rw [e2]
        exact ⟨by have := itoaB_size n hok
                  show 1 + _ ≤ 9223372036854775807
                  omega, rfl⟩
/-- the marks of a list, one element after the other -/
def mkL {α : Type} (f : α → Int → α × Int) : List α → Int → List α × Int
  | [], k => ([], k)
  | x :: xs, k => ((f x k).1 :: (mkL f xs (f x k).2).1, (mkL f xs (f x k).2).2)
/-- the number behind the first i -/
def mkN {α : Type} (f : α → Int → α × Int) (xs : List α) (k : Int) (i : Nat) : Int := (mkL f (xs.take i) k).2
theorem mkL_length {α : Type} (f : α → Int → α × Int) : ∀ (xs : List α) (k : Int), (mkL f xs k).1.length = xs.length
  | [], k => rfl
  | x :: xs, k => by simp only [mkL, List.length_cons, mkL_length f xs]
theorem mkN_zero {α : Type} (f : α → Int → α × Int) (xs : List α) (k : Int) : mkN f xs k 0 = k := rfl
theorem mkN_all {α : Type} (f : α → Int → α × Int) (xs : List α) (k : Int) : mkN f xs k xs.length = (mkL f xs k).2 := by simp [mkN]
theorem mkN_succ {α : Type} [Inhabited α] (f : α → Int → α × Int) : ∀ (xs : List α) (k : Int) (i : Nat), i < xs.length → mkN f xs k (i + 1) = (f (xs.getD i default) (mkN f xs k i)).2 ∧ (mkL f xs k).1.getD i default = (f (xs.getD i default) (mkN f xs k i)).1
  | [], k, i, h => by simp at h
  | x :: xs, k, 0, h => by simp [mkN, mkL]
  | x :: xs, k, i + 1, h => by
    have := mkN_succ f xs (f x k).2 i (by simpa using h)
    simpa [mkN, mkL] using this
def tot {α : Type} (w : α → Nat) (xs : List α) : Nat := (xs.map w).sum
/-- each mark adds at most c -/
def mkC {α : Type} (f : α → Int → α × Int) (w : α → Nat) : Prop := ∀ x k, (f x k).2 = k + w x
theorem mkN_add {α : Type} (f : α → Int → α × Int) {w : α → Nat} (h : mkC f w) (xs : List α) (k : Int) (i : Nat) : mkN f xs k i = k + ((xs.take i).map w).sum := by
  unfold mkN
  generalize xs.take i = ys
  induction ys generalizing k with
  | nil => simp [mkL]
  | cons y ys ih =>
    simp only [mkL, ih, h y k, List.map_cons, List.sum_cons]
    omega
theorem mkN_rng {α : Type} (f : α → Int → α × Int) {w : α → Nat} (h : mkC f w) (xs : List α) (k : Int) (i : Nat) : k ≤ mkN f xs k i ∧ mkN f xs k i ≤ k + (tot w xs : Nat) := by
  unfold tot
  rw [mkN_add f h]
  have : (xs.map w).sum = ((xs.take i).map w).sum + ((xs.drop i).map w).sum := by
    rw [← List.sum_append, ← List.map_append, List.take_append_drop]
  omega
def strM (s : ByteArray) (k : Int) : ByteArray × Int := (mtB k, k + 1)
theorem strM_c : mkC strM (fun _ => 1) := fun x k => rfl
theorem ok15 (xs : List ByteArray) (k : Int) (h1 : 0 ≤ k) (h2 : k + (tot (fun _ => 1) xs : Nat) ≤ 4611686018427387904) :
    VMut gz 15 [.lst true 1 (xs.map strA), .lit (.int .i64 k)] 0 (fun y x' => y = .lit (.int .i64 (mkL strM xs k).2) ∧ x' = .lst true 1 ((mkL strM xs k).1.map strA)) := by
  refine VMut.go (nt := 20) (keep := [0, 1, 4, 5, 9]) (i := 0) (mvs := []) [] f15_at rfl (by kernel_rfl) rfl (by kernel_rfl) rfl rfl rfl ?_
  intro hok
  simp only [go_sem] at hok
  simp only [Tryd.f15, Func.code, Option.getD_some]
  simp only [go_sem]
  have hM := mkL_length strM xs k
  refine vm_loopK (α := Nat) (fun i => [(0, .lst true 1 ((midL (mkL strM xs k).1 xs i).map strA)), (1, .lit (.int .i64 (mkN strM xs k i))), (4, .lit (.int .i64 0)), (5, .lit (.int .i64 i))]) (fun i => i ≤ xs.length) (fun i => xs.length - i) 0 ?_ (by omega) (by kernel_rfl) (fun _ => rfl) ?_
  · simp only [go_sem, midL_zero, mkN_zero]
    try trivial
  · intro i hi hk
    have hml : (midL (mkL strM xs k).1 xs i).length = xs.length := (midL_length (by omega) hM.symm).trans hM
    simp only [go_sem, hml]
    intro _
    first | refine branch_ndec (fun h3 => ?_) (fun h3 => ?_) | refine branch_dec (fun h3 => ?_) (fun h3 => ?_) | refine branch_nbool (fun h3 => ?_) (fun h3 => ?_) | refine branch_split (fun h3 => ?_) (fun h3 => ?_)
    · have hlt : i < xs.length := by omega
      have h0 : (0 : Int) ≤ (i : Int) := by omega
      have hs := mkN_succ strM xs k i hlt
      have hr := mkN_rng strM strM_c xs k i
      have hr2 := mkN_rng strM strM_c xs k (i + 1)
      have hw3 : IntKind.i64.wrap ((i : Int) + 1) = ((i + 1 : Nat) : Int) := by rw [wrap64 (by omega) (by omega)]; omega
      have hset : (midL (mkL strM xs k).1 xs i).set i (mtB (mkN strM xs k i)) = midL (mkL strM xs k).1 xs (i + 1) := by
        rw [← modify_set]
        exact midL_mod (by omega) hM.symm hs.2.symm
      have hw4 : IntKind.i64.wrap (mkN strM xs k i + 1) = mkN strM xs k (i + 1) := by rw [wrap64 (by omega) (by omega)]; exact hs.1.symm
      simp only [go_sem, h0, h3, hml]
      refine call_lend ?_
      simp only [go_sem]
      refine callN.eq (ok39 (mkN strM xs k i)) (by simp only [go_sem]) ?_
      simp only [go_sem]
      simp only [go_sem, h0, h3, hml, hlt, hset, hw3, hw4]
      refine again_intro (i + 1) (by omega) (by omega) ?_
      simp only [go_sem]
      try trivial
    · simp only [go_sem]
      have : i = xs.length := by omega
      subst this
      have e : midL (mkL strM xs k).1 xs xs.length = (mkL strM xs k).1 := by
        have := midL_all (mkL strM xs k).1 hM.symm
        rwa [hM] at this
      rw [mkN_all, e]
      simp only [go_sem]
      try trivial
theorem modify_flds {α : Type} {f : α → AVal} {xs : List α} {i : Nat} {g : AVal → AVal} (h : α → α) (e : ∀ x, g (f x) = f (h x)) : (xs.map f).modify i g = (xs.modify i h).map f := by
  apply List.ext_getElem?
  intro j
  simp only [List.getElem?_modify, List.getElem?_map]
  cases xs[j]? with
  | none => rfl
  | some x => by_cases hj : i = j <;> simp [hj, e]
theorem modify_two {α : Type} {xs : List α} {i : Nat} {g h : α → α} : (xs.modify i g).modify i h = xs.modify i (fun x => h (g x)) := by
  apply List.ext_getElem?
  intro j
  simp only [List.getElem?_modify]
  cases xs[j]? with
  | none => rfl
  | some x => by_cases hj : i = j <;> simp [hj]
attribute [go_sem] modify_two List.length_modify
end Go.VS

set_option linter.unusedSimpArgs false
set_option linter.unusedVariables false
open Go.Proofs
set_option maxRecDepth 20000
namespace Go.VS
theorem f16_at : gz.P.funcs[16]? = some Tryd.f16 := by
  have h : Tryd.prog.funcs[16]? = some Tryd.f16 := by kernel_rfl
  exact h
theorem f18_at : gz.P.funcs[18]? = some Tryd.f18 := by
  have h : Tryd.prog.funcs[18]? = some Tryd.f18 := by kernel_rfl
  exact h
theorem modify_intB {i : Nat} {xs : List Int} {v : Int} : (xs.map intA).modify i (putF [] (.lit (.int .i64 v))) = (xs.set i v).map intA := modify_enc (f := intA) rfl
attribute [go_sem] modify_intB
def intM (x : Int) (k : Int) : Int × Int := (k, k + 1)
theorem intM_c : mkC intM (fun _ => 1) := fun x k => rfl
theorem ok16 (xs : List Int) (k : Int) (h1 : 0 ≤ k) (h2 : k + (tot (fun _ => 1) xs : Nat) ≤ 4611686018427387904) :
    VMut gz 16 [.lst true 1 (xs.map intA), .lit (.int .i64 k)] 0 (fun y x' => y = .lit (.int .i64 (mkL intM xs k).2) ∧ x' = .lst true 1 ((mkL intM xs k).1.map intA)) := by
  refine VMut.go (nt := 19) (keep := [0, 1, 4, 5, 9]) (i := 0) (mvs := []) [] f16_at rfl (by kernel_rfl) rfl (by kernel_rfl) rfl rfl rfl ?_
  intro hok
  simp only [go_sem] at hok
  simp only [Tryd.f16, Func.code, Option.getD_some]
  simp only [go_sem]
  have hM := mkL_length intM xs k
  refine vm_loopK (α := Nat) (fun i => [(0, .lst true 1 ((midL (mkL intM xs k).1 xs i).map intA)), (1, .lit (.int .i64 (mkN intM xs k i))), (4, .lit (.int .i64 0)), (5, .lit (.int .i64 i))]) (fun i => i ≤ xs.length) (fun i => xs.length - i) 0 ?_ (by omega) (by kernel_rfl) (fun _ => rfl) ?_
  · simp only [go_sem, midL_zero, mkN_zero]
    try trivial
  · intro i hi hk
    have hml : (midL (mkL intM xs k).1 xs i).length = xs.length := (midL_length (by omega) hM.symm).trans hM
    simp only [go_sem, hml]
    intro _
    first | refine branch_ndec (fun h3 => ?_) (fun h3 => ?_) | refine branch_dec (fun h3 => ?_) (fun h3 => ?_) | refine branch_nbool (fun h3 => ?_) (fun h3 => ?_) | refine branch_split (fun h3 => ?_) (fun h3 => ?_)
    · have hlt : i < xs.length := by omega
      have h0 : (0 : Int) ≤ (i : Int) := by omega
      have hs := mkN_succ intM xs k i hlt
      have hr := mkN_rng intM intM_c xs k i
      have hr2 := mkN_rng intM intM_c xs k (i + 1)
      have hw3 : IntKind.i64.wrap ((i : Int) + 1) = ((i + 1 : Nat) : Int) := by rw [wrap64 (by omega) (by omega)]; omega
      have hset : (midL (mkL intM xs k).1 xs i).set i (mkN intM xs k i) = midL (mkL intM xs k).1 xs (i + 1) := by
        rw [← modify_set]
        exact midL_mod (by omega) hM.symm hs.2.symm
      have hw4 : IntKind.i64.wrap (mkN intM xs k i + 1) = mkN intM xs k (i + 1) := by rw [wrap64 (by omega) (by omega)]; exact hs.1.symm
      simp only [go_sem, h0, h3, hml, hlt, hset, hw3, hw4]
      refine again_intro (i + 1) (by omega) (by omega) ?_
      simp only [go_sem]
      try trivial
    · simp only [go_sem]
      have : i = xs.length := by omega
      subst this
      have e : midL (mkL intM xs k).1 xs xs.length = (mkL intM xs k).1 := by
        have := midL_all (mkL intM xs k).1 hM.symm
        rwa [hM] at this
      rw [mkN_all, e]
      simp only [go_sem]
      try trivial
theorem ok18 (xs : List Int) (k : Int) (h1 : 0 ≤ k) (h2 : k + (tot (fun _ => 1) xs : Nat) ≤ 4611686018427387904) :
    VCalls gz 18 [.lst false 1 ((mkL intM xs k).1.map intA), .lit (.int .i64 k)] none (fun y _ => y = .lit (.int .i64 (mkL intM xs k).2)) := by
  refine VCalls.go (nt := 21) (keep := [0, 1, 4, 5, 9, 17]) (muts := []) (mvs := []) [] f18_at rfl (by kernel_rfl) rfl (by kernel_rfl) rfl (fun i h => by cases h) rfl ?_
  intro hok
  simp only [go_sem] at hok
  simp only [Tryd.f18, Func.code, Option.getD_some]
  simp only [go_sem]
  have hM := mkL_length intM xs k
  refine vm_loopK (α := Nat) (fun i => [(0, .lst false 1 ((mkL intM xs k).1.map intA)), (1, .lit (.int .i64 (mkN intM xs k i))), (4, .lit (.int .i64 0)), (5, .lit (.int .i64 i))]) (fun i => i ≤ xs.length) (fun i => xs.length - i) 0 ?_ (by omega) (by kernel_rfl) (fun _ => rfl) ?_
  · simp only [go_sem, mkN_zero]
    try trivial
  · intro i hi hk
    simp only [go_sem, hM]
    intro _
    first | refine branch_ndec (fun h3 => ?_) (fun h3 => ?_) | refine branch_dec (fun h3 => ?_) (fun h3 => ?_) | refine branch_nbool (fun h3 => ?_) (fun h3 => ?_) | refine branch_split (fun h3 => ?_) (fun h3 => ?_)
    · have hlt : i < xs.length := by omega
      have h0 : (0 : Int) ≤ (i : Int) := by omega
      have hs := mkN_succ intM xs k i hlt
      have hr := mkN_rng intM intM_c xs k i
      have hr2 := mkN_rng intM intM_c xs k (i + 1)
      have hw3 : IntKind.i64.wrap ((i : Int) + 1) = ((i + 1 : Nat) : Int) := by rw [wrap64 (by omega) (by omega)]; omega
      have hw4 : IntKind.i64.wrap (mkN intM xs k i + 1) = mkN intM xs k (i + 1) := by rw [wrap64 (by omega) (by omega)]; exact hs.1.symm
      have hv : (mkL intM xs k).1.getD i default = mkN intM xs k i := hs.2
      simp only [go_sem, h0, h3, hM, hlt, hv, hw3, hw4]
      repeat' refine And.intro ?_ ?_
      all_goals
        refine again_intro (i + 1) (by omega) (by omega) ?_
        simp only [go_sem]
        try trivial
    · simp only [go_sem]
      have : i = xs.length := by omega
      subst this
      rw [mkN_all]
theorem Vot.put0 {xs : List Vot} {i : Nat} {a : Int} : (xs.map Vot.enc).modify i (putF [0] (.lit (.int .i64 a))) = (xs.modify i (fun p => { p with view := a })).map Vot.enc := modify_flds _ fun x => rfl
theorem Vot.put1 {xs : List Vot} {i : Nat} {a : Int} : (xs.map Vot.enc).modify i (putF [1] (.lit (.int .i64 a))) = (xs.modify i (fun p => { p with name := a })).map Vot.enc := modify_flds _ fun x => rfl
theorem Vot.put2 {xs : List Vot} {i : Nat} {a : Int} : (xs.map Vot.enc).modify i (putF [2] (.lit (.int .i64 a))) = (xs.modify i (fun p => { p with bY := a })).map Vot.enc := modify_flds _ fun x => rfl
theorem Vot.put3 {xs : List Vot} {i : Nat} {a : Int} : (xs.map Vot.enc).modify i (putF [3] (.lit (.int .i64 a))) = (xs.modify i (fun p => { p with tag := a })).map Vot.enc := modify_flds _ fun x => rfl
theorem Nws.put0 {xs : List Nws} {i : Nat} {a : Int} : (xs.map Nws.enc).modify i (putF [0] (.lit (.int .i64 a))) = (xs.modify i (fun p => { p with view := a })).map Nws.enc := modify_flds _ fun x => rfl
theorem Nws.put1 {xs : List Nws} {i : Nat} {a : Int} : (xs.map Nws.enc).modify i (putF [1] (.lit (.int .i64 a))) = (xs.modify i (fun p => { p with src := a })).map Nws.enc := modify_flds _ fun x => rfl
attribute [go_sem] Vot.put0 Vot.put1 Vot.put2 Vot.put3 Nws.put0 Nws.put1
def Vot.mk4 (v : Vot) (k : Int) : Vot × Int := (⟨k, k + 1, k + 2, k + 3⟩, k + 4)
theorem Vot.mk4_c : mkC Vot.mk4 (fun _ => 4) := fun x k => rfl
def Nws.mk2 (v : Nws) (k : Int) : Nws × Int := (⟨k, k + 1⟩, k + 2)
theorem Nws.mk2_c : mkC Nws.mk2 (fun _ => 2) := fun x k => rfl
end Go.VS

set_option linter.unusedSimpArgs false
set_option linter.unusedVariables false
open Go.Proofs
set_option maxRecDepth 20000
namespace Go.VS
theorem mkL_rng {α : Type} (f : α → Int → α × Int) {w : α → Nat} (h : mkC f w) (xs : List α) (k : Int) : (mkL f xs k).2 = k + (tot w xs : Nat) := by
  have := mkN_add f h xs k xs.length
  rw [mkN_all, List.take_length] at this
  exact this
theorem tot_const {α : Type} (c : Nat) (xs : List α) : tot (fun _ => c) xs = xs.length * c := by
  unfold tot
  induction xs with
  | nil => simp
  | cons x xs ih => simp only [List.map_cons, List.sum_cons, List.length_cons, ih, Nat.add_mul, Nat.one_mul]; omega
def iM (xs : List Int) (k : Int) : List Int := (mkL intM xs k).1
def sM (xs : List ByteArray) (k : Int) : List ByteArray := (mkL strM xs k).1
theorem iM_snd (xs : List Int) (k : Int) : (mkL intM xs k).2 = k + (xs.length : Int) := by rw [mkL_rng _ intM_c, tot_const]; simp
theorem sM_snd (xs : List ByteArray) (k : Int) : (mkL strM xs k).2 = k + (xs.length : Int) := by rw [mkL_rng _ strM_c, tot_const]; simp
theorem iM_len (xs : List Int) (k : Int) : (iM xs k).length = xs.length := mkL_length _ _ _
theorem sM_len (xs : List ByteArray) (k : Int) : (sM xs k).length = xs.length := mkL_length _ _ _
theorem okI16 (xs : List Int) (k : Int) (h1 : 0 ≤ k) (h2 : k + xs.length ≤ 4611686018427387904) :
    VMut gz 16 [.lst true 1 (xs.map intA), .lit (.int .i64 k)] 0 (fun y x' => y = .lit (.int .i64 (k + xs.length)) ∧ x' = .lst true 1 ((iM xs k).map intA)) := by
  have := ok16 xs k h1 (by rw [tot_const]; omega)
  rwa [iM_snd] at this
theorem okI18 (xs : List Int) (k : Int) (h1 : 0 ≤ k) (h2 : k + xs.length ≤ 4611686018427387904) :
    VCalls gz 18 [.lst false 1 ((iM xs k).map intA), .lit (.int .i64 k)] none (fun y _ => y = .lit (.int .i64 (k + xs.length))) := by
  have := ok18 xs k h1 (by rw [tot_const]; omega)
  rwa [iM_snd] at this
theorem okI15 (xs : List ByteArray) (k : Int) (h1 : 0 ≤ k) (h2 : k + xs.length ≤ 4611686018427387904) :
    VMut gz 15 [.lst true 1 (xs.map strA), .lit (.int .i64 k)] 0 (fun y x' => y = .lit (.int .i64 (k + xs.length)) ∧ x' = .lst true 1 ((sM xs k).map strA)) := by
  have := ok15 xs k h1 (by rw [tot_const]; omega)
  rwa [sM_snd] at this
theorem tot_getD {α : Type} [Inhabited α] {w : α → Nat} {xs : List α} {i : Nat} (h : i < xs.length) (k : Int) {f : α → Int → α × Int} (hf : mkC f w) : mkN f xs k i + (w (xs.getD i default) : Nat) ≤ k + (tot w xs : Nat) := by
  have h1 := (mkN_succ f xs k i h).1
  have h2 := (mkN_rng f hf xs k (i + 1)).2
  rw [hf] at h1
  omega
/-- the marks of a proof's lists -/
def Prf.mw (p : Prf) : Nat := p.bys.length + p.tags.length
def Prf.mkP (p : Prf) (k : Int) : Prf × Int := (⟨p.view, p.name, iM p.bys k, iM p.tags (k + p.bys.length)⟩, k + p.mw)
theorem Blk.put0 {xs : List Blk} {o : Bool} {i : Nat} {a : Int} : (xs.map (Blk.enc o)).modify i (putF [0] (.lit (.int .i64 a))) = (xs.modify i (fun p => { p with view := a })).map (Blk.enc o) := modify_flds _ fun x => rfl
theorem Blk.put1 {xs : List Blk} {o : Bool} {i : Nat} {a : Int} : (xs.map (Blk.enc o)).modify i (putF [1] (.lit (.int .i64 a))) = (xs.modify i (fun p => { p with parent := a })).map (Blk.enc o) := modify_flds _ fun x => rfl
theorem Blk.put20 {xs : List Blk} {o : Bool} {i : Nat} {a : Int} : (xs.map (Blk.enc o)).modify i (putF [2, 0] (.lit (.int .i64 a))) = (xs.modify i (fun p => { p with proof := { p.proof with view := a } })).map (Blk.enc o) := modify_flds _ fun x => rfl
theorem Blk.put21 {xs : List Blk} {o : Bool} {i : Nat} {a : Int} : (xs.map (Blk.enc o)).modify i (putF [2, 1] (.lit (.int .i64 a))) = (xs.modify i (fun p => { p with proof := { p.proof with name := a } })).map (Blk.enc o) := modify_flds _ fun x => rfl
theorem Blk.put4 {xs : List Blk} {o : Bool} {i : Nat} {a : Int} : (xs.map (Blk.enc o)).modify i (putF [4] (.lit (.int .i64 a))) = (xs.modify i (fun p => { p with bY := a })).map (Blk.enc o) := modify_flds _ fun x => rfl
theorem Blk.putL22 {xs : List Blk} {i : Nat} {ys : List Int} : (xs.map (Blk.enc true)).modify i (putP [.fld 2, .fld 2] (.lst true 1 (ys.map intA))) = (xs.modify i (fun p => { p with proof := { p.proof with bys := ys } })).map (Blk.enc true) := modify_flds _ fun x => rfl
theorem Blk.putL23 {xs : List Blk} {i : Nat} {ys : List Int} : (xs.map (Blk.enc true)).modify i (putP [.fld 2, .fld 3] (.lst true 1 (ys.map intA))) = (xs.modify i (fun p => { p with proof := { p.proof with tags := ys } })).map (Blk.enc true) := modify_flds _ fun x => rfl
theorem Blk.putL3 {xs : List Blk} {i : Nat} {ys : List ByteArray} : (xs.map (Blk.enc true)).modify i (putP [.fld 3] (.lst true 1 (ys.map strA))) = (xs.modify i (fun p => { p with moves := ys })).map (Blk.enc true) := modify_flds _ fun x => rfl
attribute [go_sem] putP_lst Blk.put0 Blk.put1 Blk.put20 Blk.put21 Blk.put4 Blk.putL22 Blk.putL23 Blk.putL3
theorem getD_mod {L : List Blk} {i : Nat} {B : Blk} (h : i < L.length) (hb : L.getD i default = B) (f : Blk → Blk) : (L.modify i f).getD i default = f B := by
  simp [List.getD, List.getElem?_modify, h] at hb ⊢
  rw [hb]
/-- the marks of a block in a list -/
def Blk.mw (b : Blk) : Nat := 5 + b.proof.bys.length + b.proof.tags.length + b.moves.length
def Blk.mkB (b : Blk) (k : Int) : Blk × Int := (⟨k, k + 1, ⟨k + 2, k + 3, iM b.proof.bys (k + 4), iM b.proof.tags (k + 4 + b.proof.bys.length)⟩, sM b.moves (k + 4 + b.proof.bys.length + b.proof.tags.length), k + 4 + b.proof.bys.length + b.proof.tags.length + b.moves.length⟩, k + b.mw)
theorem Blk.mkB_c : mkC Blk.mkB Blk.mw := fun x k => rfl
end Go.VS

set_option linter.unusedSimpArgs false
set_option linter.unusedVariables false
open Go.Proofs Go.RowKit
set_option maxRecDepth 20000
namespace Go.VS
theorem f5_at : gz.P.funcs[5]? = some Tryd.f5 := by
  have h : Tryd.prog.funcs[5]? = some Tryd.f5 := by kernel_rfl
  exact h
theorem f8_at : gz.P.funcs[8]? = some Tryd.f8 := by
  have h : Tryd.prog.funcs[8]? = some Tryd.f8 := by kernel_rfl
  exact h
theorem f11_at : gz.P.funcs[11]? = some Tryd.f11 := by
  have h : Tryd.prog.funcs[11]? = some Tryd.f11 := by kernel_rfl
  exact h
theorem f14_at : gz.P.funcs[14]? = some Tryd.f14 := by
  have h : Tryd.prog.funcs[14]? = some Tryd.f14 := by kernel_rfl
  exact h
theorem f17_at : gz.P.funcs[17]? = some Tryd.f17 := by
  have h : Tryd.prog.funcs[17]? = some Tryd.f17 := by kernel_rfl
  exact h
def Bnk.sz (b : Bnk) : Nat := b.money.length + b.counts.length
theorem ok5 (p : Bnk) (left : Int) (hl : room left) : VCalls gz 5 [p.enc false, .lit (.int .i64 left)] none (fun y _ => y = .lit (.int .i64 (szR p.sz left))) := by
  obtain ⟨hl1, hl2⟩ := hl
  have hz : p.sz = p.money.length + p.counts.length := rfl
  refine VCalls.go (nt := 18) (keep := [0, 1, 2, 4, 10, 16]) (muts := []) (mvs := []) [] f5_at rfl (by kernel_rfl) rfl (by kernel_rfl) rfl (fun i h => by cases h) rfl ?_
  intro hok
  simp only [go_sem] at hok
  simp only [Tryd.f5, Func.code, Option.getD_some]
  simp only [go_sem]
  obtain ⟨A1, g1⟩ : ∃ A, A = p.money.length := ⟨_, rfl⟩
  refine call_lend ?_
  simp only [go_sem]
  refine callN.eq (ok32 p.money left ⟨hl1, hl2⟩) (by simp only [go_sem]) ?_
  simp only [go_sem]
  rw [← g1]
  by_cases h1 : (A1 : Int) ≤ left
  rotate_left
  · rw [show szR A1 left = -1 from szR_lt (by omega)]
    simp only [go_sem]
    rw [szR_lt (by omega)]
  rw [show szR A1 left = left - (A1 : Int) from szR_le h1]
  have n1 : ¬ (left - (A1 : Int) < 0) := by omega
  simp only [n1, decide_false]
  simp only [go_sem]
  refine call_lend ?_
  simp only [go_sem]
  refine callN.eq (ok32 p.counts _ ⟨by omega, by omega⟩) (by simp only [go_sem]) ?_
  simp only [go_sem]
  obtain ⟨A2, g2⟩ : ∃ A, A = A1 + p.counts.length := ⟨_, rfl⟩
  rw [szR_add h1, ← g2]
  by_cases h2 : (A2 : Int) ≤ left
  rotate_left
  · rw [show szR A2 left = -1 from szR_lt (by omega)]
    simp only [go_sem]
    rw [szR_lt (by omega)]
  rw [show szR A2 left = left - (A2 : Int) from szR_le h2]
  have n2 : ¬ (left - (A2 : Int) < 0) := by omega
  simp only [n2, decide_false]
  simp only [go_sem]
  rw [szR_le (by omega)]
  have : (p.sz : Int) = (A2 : Int) := by omega
  rw [this]
theorem ok8 (d : Bnk) (hd : d.sz ≤ 1048576) : VCalls gz 8 [d.enc false] none (fun y _ => y = d.enc true) := by
  have hd2 : d.money.length + d.counts.length ≤ 1048576 := hd
  refine VCalls.go (nt := 13) (keep := [0, 1, 2, 3]) (muts := []) (mvs := [4]) [] f8_at rfl (by kernel_rfl) rfl (by kernel_rfl) rfl (fun i h => by cases h) rfl ?_
  intro hok
  simp only [go_sem] at hok
  simp only [Tryd.f8, Func.code, Option.getD_some]
  simp only [go_sem]
  refine call_lend ?_
  simp only [go_sem]
  refine callN.eq (ok35 d.money (by omega)) (by simp only [go_sem]) ?_
  simp only [go_sem]
  refine call_lend ?_
  simp only [go_sem]
  refine callN.eq (ok35 d.counts (by omega)) (by simp only [go_sem]) ?_
  simp only [go_sem]
theorem ok11 (d c : Bnk) : VCalls gz 11 [d.enc false, c.enc false] none (fun y _ => y = .lit (.bool (decide (d = c)))) := by
  refine VCalls.go (nt := 17) (keep := [0, 1, 2, 3, 4, 10, 16]) (muts := []) (mvs := []) [] f11_at rfl (by kernel_rfl) rfl (by kernel_rfl) rfl (fun i h => by cases h) rfl ?_
  intro hok
  simp only [go_sem] at hok
  simp only [Tryd.f11, Func.code, Option.getD_some]
  simp only [go_sem]
  refine call_lend ?_
  simp only [go_sem]
  refine callN.eq (ok12 d.money c.money) (by simp only [go_sem]) ?_
  simp only [go_sem]
  by_cases h1 : d.money = c.money
  · simp only [go_sem, eq_true h1]
    refine call_lend ?_
    simp only [go_sem]
    refine callN.eq (ok12 d.counts c.counts) (by simp only [go_sem]) ?_
    simp only [go_sem]
    by_cases h2 : d.counts = c.counts
    · have : d = c := by cases d; cases c; simp_all
      simp only [go_sem, eq_true h2, eq_true this]
    · have : ¬ d = c := fun e => h2 (by rw [e])
      simp only [go_sem, h2, this]
  · have : ¬ d = c := fun e => h1 (by rw [e])
    simp only [go_sem, h1, this]
def Bnk.mkK (b : Bnk) (k : Int) : Bnk := ⟨iM b.money k, iM b.counts (k + b.money.length)⟩
theorem ok14 (b : Bnk) (k : Int) (h1 : 0 ≤ k) (h2 : k + (b.sz : Nat) ≤ 4611686018427387904) :
    VMut gz 14 [b.enc true, .lit (.int .i64 k)] 0 (fun y x' => y = .lit (.int .i64 (k + b.money.length + b.counts.length)) ∧ x' = (b.mkK k).enc true) := by
  have hz : b.sz = b.money.length + b.counts.length := rfl
  refine VMut.go (nt := 14) (keep := [0, 1, 2, 4]) (i := 0) (mvs := []) [] f14_at rfl (by kernel_rfl) rfl (by kernel_rfl) rfl rfl rfl ?_
  intro hok
  simp only [go_sem] at hok
  simp only [Tryd.f14, Func.code, Option.getD_some]
  simp only [go_sem]
  refine call_give 0 0 [.fld 0] rfl rfl rfl (by simp only [go_sem]; rfl) (by simp only [go_sem, List.getElem?_cons_zero, List.getElem?_cons_succ]) (by simp only [go_sem]) (by simp only [go_sem]) (by simp only [go_sem]) ?_
  simp only [go_sem, List.set]
  refine callW.eq (okI16 b.money k h1 (by omega)) ?_
  simp only [go_sem]
  refine ⟨iM_len _ _, ?_⟩
  refine call_give 0 0 [.fld 1] rfl rfl rfl (by simp only [go_sem]; rfl) (by simp only [go_sem, List.getElem?_cons_zero, List.getElem?_cons_succ]) (by simp only [go_sem]) (by simp only [go_sem]) (by simp only [go_sem]) ?_
  simp only [go_sem, List.set]
  refine callW.eq (okI16 b.counts (k + b.money.length) (by omega) (by omega)) ?_
  simp only [go_sem]
  refine ⟨iM_len _ _, ?_⟩
  try trivial
theorem ok17 (b : Bnk) (k : Int) (h1 : 0 ≤ k) (h2 : k + (b.sz : Nat) ≤ 4611686018427387904) :
    VCalls gz 17 [(b.mkK k).enc false, .lit (.int .i64 k)] none (fun y _ => y = .lit (.int .i64 (k + b.money.length + b.counts.length))) := by
  have hz : b.sz = b.money.length + b.counts.length := rfl
  have e : b.mkK k = ⟨iM b.money k, iM b.counts (k + b.money.length)⟩ := rfl
  rw [e]
  refine VCalls.go (nt := 18) (keep := [0, 1, 2, 4, 10, 16]) (muts := []) (mvs := []) [] f17_at rfl (by kernel_rfl) rfl (by kernel_rfl) rfl (fun i h => by cases h) rfl ?_
  intro hok
  simp only [go_sem] at hok
  simp only [Tryd.f17, Func.code, Option.getD_some]
  simp only [go_sem]
  refine call_lend ?_
  simp only [go_sem]
  refine callN.eq (okI18 b.money k h1 (by omega)) (by simp only [go_sem]) ?_
  simp only [go_sem]
  have n1 : ¬ (k + (b.money.length : Int) < 0) := by omega
  simp only [go_sem, n1]
  refine call_lend ?_
  simp only [go_sem]
  refine callN.eq (okI18 b.counts (k + b.money.length) (by omega) (by omega)) (by simp only [go_sem]) ?_
  simp only [go_sem]
  have n2 : ¬ (k + (b.money.length : Int) + (b.counts.length : Int) < 0) := by omega
  simp only [go_sem, n2]
theorem mem_szL : ∀ {l : List ByteArray} {s : ByteArray}, s ∈ l → s.size ≤ szL ByteArray.size l
  | [], s, h => by simp at h
  | x :: xs, s, h => by
    have e : szL ByteArray.size (x :: xs) = 1 + x.size + szL ByteArray.size xs := by simp [szL]; omega
    rcases List.mem_cons.1 h with rfl | h
    · omega
    · have := mem_szL h
      omega
theorem len_szL {l : List ByteArray} : l.length ≤ szL ByteArray.size l := by unfold szL; omega
theorem Bnk.ans_len (b : Bnk) (l : List ByteArray) : (b.ans l).1.money.length ≤ 8 ∧ (b.ans l).1.counts.length ≤ 8 ∧ (b.ans l).2.length ≤ l.length := by
  unfold Bnk.ans
  split
  · rename_i h
    have h1 := Bnk.ok_len (Bnk.run_ok h l l.length).1
    have h2 := Bnk.run_len b l l.length
    omega
  · simp
end Go.VS
