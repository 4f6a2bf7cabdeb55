/- VS: functions by the machine. -/
import Derived.Test.YtbpjfoaafgmeaaaGreatDoorVf
set_option linter.unusedSimpArgs false
set_option linter.unusedVariables false
open Go.Proofs
set_option maxRecDepth 20000
namespace Go.VS
theorem f124_at : gz.P.funcs[124]? = some Tryz.f124 := by
  have h : Tryz.prog.funcs[124]? = some Tryz.f124 := by kernel_rfl
  exact h
theorem f68_at : gz.P.funcs[68]? = some Tryz.f68 := by
  have h : Tryz.prog.funcs[68]? = some Tryz.f68 := by kernel_rfl
  exact h
theorem f116_at : gz.P.funcs[116]? = some Tryz.f116 := by
  have h : Tryz.prog.funcs[116]? = some Tryz.f116 := by kernel_rfl
  exact h
theorem f66_at : gz.P.funcs[66]? = some Tryz.f66 := by
  have h : Tryz.prog.funcs[66]? = some Tryz.f66 := by kernel_rfl
  exact h
theorem f117_at : gz.P.funcs[117]? = some Tryz.f117 := by
  have h : Tryz.prog.funcs[117]? = some Tryz.f117 := by kernel_rfl
  exact h
theorem f67_at : gz.P.funcs[67]? = some Tryz.f67 := by
  have h : Tryz.prog.funcs[67]? = some Tryz.f67 := by kernel_rfl
  exact h
theorem f65_at : gz.P.funcs[65]? = some Tryz.f65 := by
  have h : Tryz.prog.funcs[65]? = some Tryz.f65 := by kernel_rfl
  exact h
theorem f79_at : gz.P.funcs[79]? = some Tryz.f79 := by
  have h : Tryz.prog.funcs[79]? = some Tryz.f79 := by kernel_rfl
  exact h
theorem f21_at : gz.P.funcs[21]? = some Tryz.f21 := by
  have h : Tryz.prog.funcs[21]? = some Tryz.f21 := by kernel_rfl
  exact h
theorem f13_at : gz.P.funcs[13]? = some Tryz.f13 := by
  have h : Tryz.prog.funcs[13]? = some Tryz.f13 := by kernel_rfl
  exact h
theorem ok124 (xs ys : List ByteArray) : VCalls gz 124 [.lst false 1 (xs.map strA), .lst false 1 (ys.map strA)] none (fun y _ => y = .lit (.bool (decide (xs = ys)))) := by
  refine VCalls.go (nt := 26) (keep := [0, 1, 4, 5, 10, 14, 25]) (muts := []) (mvs := []) [(6, .chain true [0, 1, 2, 3, 4, 5, 6, 7, 8])] f124_at rfl (by kernel_rfl) rfl (by kernel_rfl) rfl (fun i h => by cases h) rfl ?_
  intro hok
  simp only [go_sem] at hok
  simp only [Tryz.f124, Func.code, Option.getD_some]
  simp only [go_sem]
  intro hm hm2
  first | refine branch_ndec (fun h => ?_) (fun h => ?_) | refine branch_dec (fun h => ?_) (fun h => ?_) | refine branch_nbool (fun h => ?_) (fun h => ?_) | refine branch_split (fun h => ?_) (fun h => ?_)
  rotate_left
  · simp only [go_sem]
    have : ¬ xs = ys := fun e => h (by rw [e])
    simp only [this, decide_false]
  · have hll : xs.length = ys.length := by omega
    simp only [go_sem]
    refine vm_loopK (α := Nat) (fun i => [(0, .lst false 1 (xs.map strA)), (1, .lst false 1 (ys.map strA)), (4, .lit (.bool false)), (5, .lit (.int .i64 i))]) (fun i => i ≤ xs.length ∧ ∀ j, j < i → xs.getD j default = ys.getD j default) (fun i => xs.length - i) 0 ?_ ⟨by omega, fun j hj => by omega⟩ (by kernel_rfl) (fun _ => rfl) ?_
    · simp only [go_sem]
      try trivial
    · rintro i ⟨hi, he⟩ hk
      simp only [go_sem]
      intro _
      first | refine branch_ndec (fun h2 => ?_) (fun h2 => ?_) | refine branch_dec (fun h2 => ?_) (fun h2 => ?_) | refine branch_nbool (fun h2 => ?_) (fun h2 => ?_) | refine branch_split (fun h2 => ?_) (fun h2 => ?_)
      · have hlt : i < xs.length := by omega
        have hlt2 : i < ys.length := by omega
        have h0 : (0 : Int) ≤ (i : Int) := by omega
        have h3 : (i : Int) < (ys.length : Int) := by omega
        have hw3 : IntKind.i64.wrap ((i : Int) + 1) = ((i + 1 : Nat) : Int) := by rw [wrap64 (by omega) (by omega)]; omega
        simp only [go_sem, h0, hlt, h2, hlt2, h3]
        first | refine branch_ndec (fun h4 => ?_) (fun h4 => ?_) | refine branch_dec (fun h4 => ?_) (fun h4 => ?_) | refine branch_nbool (fun h4 => ?_) (fun h4 => ?_) | refine branch_split (fun h4 => ?_) (fun h4 => ?_)
        rotate_left
        · simp only [go_sem]
          have : ¬ xs = ys := fun e => h4 (by rw [e])
          simp only [this, decide_false]
        · simp only [go_sem, hw3]
          refine again_intro (i + 1) ⟨by omega, fun j hj => ?_⟩ (by omega) ?_
          · by_cases hji : j < i
            · exact he j hji
            · have : j = i := by omega
              subst this
              exact h4
          · simp only [go_sem]
            try trivial
      · simp only [go_sem]
        have : i = xs.length := by omega
        subst this
        have : xs = ys := ext_getD hll he
        simp only [this, decide_true]
theorem ok68 (xs ys : List Int) : VCalls gz 68 [.lst false 1 (xs.map intA), .lst false 1 (ys.map intA)] none (fun y _ => y = .lit (.bool (decide (xs = ys)))) := by
  refine VCalls.go (nt := 26) (keep := [0, 1, 4, 5, 10, 14, 25]) (muts := []) (mvs := []) [(6, .chain true [0, 1, 2, 3, 4, 5, 6, 7, 8])] f68_at rfl (by kernel_rfl) rfl (by kernel_rfl) rfl (fun i h => by cases h) rfl ?_
  intro hok
  simp only [go_sem] at hok
  simp only [Tryz.f68, Func.code, Option.getD_some]
  simp only [go_sem]
  intro hm hm2
  first | refine branch_ndec (fun h => ?_) (fun h => ?_) | refine branch_dec (fun h => ?_) (fun h => ?_) | refine branch_nbool (fun h => ?_) (fun h => ?_) | refine branch_split (fun h => ?_) (fun h => ?_)
  rotate_left
  · simp only [go_sem]
    have : ¬ xs = ys := fun e => h (by rw [e])
    simp only [this, decide_false]
  · have hll : xs.length = ys.length := by omega
    simp only [go_sem]
    refine vm_loopK (α := Nat) (fun i => [(0, .lst false 1 (xs.map intA)), (1, .lst false 1 (ys.map intA)), (4, .lit (.bool false)), (5, .lit (.int .i64 i))]) (fun i => i ≤ xs.length ∧ ∀ j, j < i → xs.getD j default = ys.getD j default) (fun i => xs.length - i) 0 ?_ ⟨by omega, fun j hj => by omega⟩ (by kernel_rfl) (fun _ => rfl) ?_
    · simp only [go_sem]
      try trivial
    · rintro i ⟨hi, he⟩ hk
      simp only [go_sem]
      intro _
      first | refine branch_ndec (fun h2 => ?_) (fun h2 => ?_) | refine branch_dec (fun h2 => ?_) (fun h2 => ?_) | refine branch_nbool (fun h2 => ?_) (fun h2 => ?_) | refine branch_split (fun h2 => ?_) (fun h2 => ?_)
      · have hlt : i < xs.length := by omega
        have hlt2 : i < ys.length := by omega
        have h0 : (0 : Int) ≤ (i : Int) := by omega
        have h3 : (i : Int) < (ys.length : Int) := by omega
        have hw3 : IntKind.i64.wrap ((i : Int) + 1) = ((i + 1 : Nat) : Int) := by rw [wrap64 (by omega) (by omega)]; omega
        simp only [go_sem, h0, hlt, h2, hlt2, h3]
        first | refine branch_ndec (fun h4 => ?_) (fun h4 => ?_) | refine branch_dec (fun h4 => ?_) (fun h4 => ?_) | refine branch_nbool (fun h4 => ?_) (fun h4 => ?_) | refine branch_split (fun h4 => ?_) (fun h4 => ?_)
        rotate_left
        · simp only [go_sem]
          have : ¬ xs = ys := fun e => h4 (by rw [e])
          simp only [this, decide_false]
        · simp only [go_sem, hw3]
          refine again_intro (i + 1) ⟨by omega, fun j hj => ?_⟩ (by omega) ?_
          · by_cases hji : j < i
            · exact he j hji
            · have : j = i := by omega
              subst this
              exact h4
          · simp only [go_sem]
            try trivial
      · simp only [go_sem]
        have : i = xs.length := by omega
        subst this
        have : xs = ys := ext_getD hll he
        simp only [this, decide_true]
theorem ok116 (p q : Vot) : VCalls gz 116 [p.enc, q.enc] none (fun y _ => y = .lit (.bool (decide (p = q)))) := by
  refine VCalls.go (nt := 25) (keep := [0, 1, 2, 3, 4, 9, 14, 19, 24]) (muts := []) (mvs := []) [] f116_at rfl (by kernel_rfl) rfl (by kernel_rfl) rfl (fun i h => by cases h) rfl ?_
  intro hok
  simp only [go_sem] at hok
  simp only [Tryz.f116, Func.code, Option.getD_some]
  simp only [go_sem]
  first | refine branch_ndec (fun h1 => ?_) (fun h1 => ?_) | refine branch_dec (fun h1 => ?_) (fun h1 => ?_) | refine branch_nbool (fun h1 => ?_) (fun h1 => ?_) | refine branch_split (fun h1 => ?_) (fun h1 => ?_)
  rotate_left
  · have : ¬ p = q := fun e => h1 (by rw [e])
    simp only [go_sem, this]
  simp only [go_sem]
  first | refine branch_ndec (fun h2 => ?_) (fun h2 => ?_) | refine branch_dec (fun h2 => ?_) (fun h2 => ?_) | refine branch_nbool (fun h2 => ?_) (fun h2 => ?_) | refine branch_split (fun h2 => ?_) (fun h2 => ?_)
  rotate_left
  · have : ¬ p = q := fun e => h2 (by rw [e])
    simp only [go_sem, this]
  simp only [go_sem]
  first | refine branch_ndec (fun h3 => ?_) (fun h3 => ?_) | refine branch_dec (fun h3 => ?_) (fun h3 => ?_) | refine branch_nbool (fun h3 => ?_) (fun h3 => ?_) | refine branch_split (fun h3 => ?_) (fun h3 => ?_)
  rotate_left
  · have : ¬ p = q := fun e => h3 (by rw [e])
    simp only [go_sem, this]
  simp only [go_sem]
  first | refine branch_ndec (fun h4 => ?_) (fun h4 => ?_) | refine branch_dec (fun h4 => ?_) (fun h4 => ?_) | refine branch_nbool (fun h4 => ?_) (fun h4 => ?_) | refine branch_split (fun h4 => ?_) (fun h4 => ?_)
  rotate_left
  · have : ¬ p = q := fun e => h4 (by rw [e])
    simp only [go_sem, this]
  simp only [go_sem]
  have : p = q := by cases p; cases q; simp_all
  simp only [go_sem, eq_true this]
theorem ok66 (xs ys : List Vot) : VCalls gz 66 [.lst false 4 (xs.map Vot.enc), .lst false 4 (ys.map Vot.enc)] none (fun y _ => y = .lit (.bool (decide (xs = ys)))) := by
  refine VCalls.go (nt := 27) (keep := [0, 1, 4, 5, 10, 14, 26]) (muts := []) (mvs := []) [(6, .tree true (.take 0 (.take 1 (.take 2 (.take 3 (.take 4 (.take 5 (.take 6 (.take 7 (.all (.cons 8 (.take 9 .done) .nil)))))))))))] f66_at rfl (by kernel_rfl) rfl (by kernel_rfl) rfl (fun i h => by cases h) rfl ?_
  intro hok
  simp only [go_sem] at hok
  simp only [Tryz.f66, Func.code, Option.getD_some]
  simp only [go_sem]
  intro hm hm2
  first | refine branch_ndec (fun h => ?_) (fun h => ?_) | refine branch_dec (fun h => ?_) (fun h => ?_) | refine branch_nbool (fun h => ?_) (fun h => ?_) | refine branch_split (fun h => ?_) (fun h => ?_)
  rotate_left
  · simp only [go_sem]
    have : ¬ xs = ys := fun e => h (by rw [e])
    simp only [this, decide_false]
  · have hll : xs.length = ys.length := by omega
    simp only [go_sem]
    refine vm_loopK (α := Nat) (fun i => [(0, .lst false 4 (xs.map Vot.enc)), (1, .lst false 4 (ys.map Vot.enc)), (4, .lit (.bool false)), (5, .lit (.int .i64 i))]) (fun i => i ≤ xs.length ∧ ∀ j, j < i → xs.getD j default = ys.getD j default) (fun i => xs.length - i) 0 ?_ ⟨by omega, fun j hj => by omega⟩ (by kernel_rfl) (fun _ => rfl) ?_
    · simp only [go_sem]
      try trivial
    · rintro i ⟨hi, he⟩ hk
      simp only [go_sem]
      intro _
      first | refine branch_ndec (fun h2 => ?_) (fun h2 => ?_) | refine branch_dec (fun h2 => ?_) (fun h2 => ?_) | refine branch_nbool (fun h2 => ?_) (fun h2 => ?_) | refine branch_split (fun h2 => ?_) (fun h2 => ?_)
      · have hlt : i < xs.length := by omega
        have hlt2 : i < ys.length := by omega
        have h0 : (0 : Int) ≤ (i : Int) := by omega
        have h3 : (i : Int) < (ys.length : Int) := by omega
        have hw3 : IntKind.i64.wrap ((i : Int) + 1) = ((i + 1 : Nat) : Int) := by rw [wrap64 (by omega) (by omega)]; omega
        simp only [go_sem, h0, hlt, h2, hlt2, h3]
        repeat' refine And.intro ?_ ?_
        all_goals
          refine call_lend ?_
          simp only [go_sem]
          refine callN.eq (ok116 (xs.getD i default) (ys.getD i default)) (by simp only [go_sem]) ?_
          simp only [go_sem]
          by_cases h4 : xs.getD i default = ys.getD i default
          · simp only [go_sem, hw3, h4]
            refine again_intro (i + 1) ⟨by omega, fun j hj => ?_⟩ (by omega) ?_
            · by_cases hji : j < i
              · exact he j hji
              · have : j = i := by omega
                subst this
                exact h4
            · simp only [go_sem]
              try trivial
          · simp only [go_sem, h4]
            have : ¬ xs = ys := fun e => h4 (by rw [e])
            simp only [this, decide_false]
      · simp only [go_sem]
        have : i = xs.length := by omega
        subst this
        have : xs = ys := ext_getD hll he
        simp only [this, decide_true]
theorem ok117 (p q : Nws) : VCalls gz 117 [p.enc, q.enc] none (fun y _ => y = .lit (.bool (decide (p = q)))) := by
  refine VCalls.go (nt := 15) (keep := [0, 1, 2, 3, 4, 9, 14]) (muts := []) (mvs := []) [] f117_at rfl (by kernel_rfl) rfl (by kernel_rfl) rfl (fun i h => by cases h) rfl ?_
  intro hok
  simp only [go_sem] at hok
  simp only [Tryz.f117, Func.code, Option.getD_some]
  simp only [go_sem]
  first | refine branch_ndec (fun h1 => ?_) (fun h1 => ?_) | refine branch_dec (fun h1 => ?_) (fun h1 => ?_) | refine branch_nbool (fun h1 => ?_) (fun h1 => ?_) | refine branch_split (fun h1 => ?_) (fun h1 => ?_)
  rotate_left
  · have : ¬ p = q := fun e => h1 (by rw [e])
    simp only [go_sem, this]
  simp only [go_sem]
  first | refine branch_ndec (fun h2 => ?_) (fun h2 => ?_) | refine branch_dec (fun h2 => ?_) (fun h2 => ?_) | refine branch_nbool (fun h2 => ?_) (fun h2 => ?_) | refine branch_split (fun h2 => ?_) (fun h2 => ?_)
  rotate_left
  · have : ¬ p = q := fun e => h2 (by rw [e])
    simp only [go_sem, this]
  simp only [go_sem]
  have : p = q := by cases p; cases q; simp_all
  simp only [go_sem, eq_true this]
theorem ok67 (xs ys : List Nws) : VCalls gz 67 [.lst false 2 (xs.map Nws.enc), .lst false 2 (ys.map Nws.enc)] none (fun y _ => y = .lit (.bool (decide (xs = ys)))) := by
  refine VCalls.go (nt := 27) (keep := [0, 1, 4, 5, 10, 14, 26]) (muts := []) (mvs := []) [(6, .tree true (.take 0 (.take 1 (.take 2 (.take 3 (.take 4 (.take 5 (.take 6 (.take 7 (.all (.cons 8 (.take 9 .done) .nil)))))))))))] f67_at rfl (by kernel_rfl) rfl (by kernel_rfl) rfl (fun i h => by cases h) rfl ?_
  intro hok
  simp only [go_sem] at hok
  simp only [Tryz.f67, Func.code, Option.getD_some]
  simp only [go_sem]
  intro hm hm2
  first | refine branch_ndec (fun h => ?_) (fun h => ?_) | refine branch_dec (fun h => ?_) (fun h => ?_) | refine branch_nbool (fun h => ?_) (fun h => ?_) | refine branch_split (fun h => ?_) (fun h => ?_)
  rotate_left
  · simp only [go_sem]
    have : ¬ xs = ys := fun e => h (by rw [e])
    simp only [this, decide_false]
  · have hll : xs.length = ys.length := by omega
    simp only [go_sem]
    refine vm_loopK (α := Nat) (fun i => [(0, .lst false 2 (xs.map Nws.enc)), (1, .lst false 2 (ys.map Nws.enc)), (4, .lit (.bool false)), (5, .lit (.int .i64 i))]) (fun i => i ≤ xs.length ∧ ∀ j, j < i → xs.getD j default = ys.getD j default) (fun i => xs.length - i) 0 ?_ ⟨by omega, fun j hj => by omega⟩ (by kernel_rfl) (fun _ => rfl) ?_
    · simp only [go_sem]
      try trivial
    · rintro i ⟨hi, he⟩ hk
      simp only [go_sem]
      intro _
      first | refine branch_ndec (fun h2 => ?_) (fun h2 => ?_) | refine branch_dec (fun h2 => ?_) (fun h2 => ?_) | refine branch_nbool (fun h2 => ?_) (fun h2 => ?_) | refine branch_split (fun h2 => ?_) (fun h2 => ?_)
      · have hlt : i < xs.length := by omega
        have hlt2 : i < ys.length := by omega
        have h0 : (0 : Int) ≤ (i : Int) := by omega
        have h3 : (i : Int) < (ys.length : Int) := by omega
        have hw3 : IntKind.i64.wrap ((i : Int) + 1) = ((i + 1 : Nat) : Int) := by rw [wrap64 (by omega) (by omega)]; omega
        simp only [go_sem, h0, hlt, h2, hlt2, h3]
        repeat' refine And.intro ?_ ?_
        all_goals
          refine call_lend ?_
          simp only [go_sem]
          refine callN.eq (ok117 (xs.getD i default) (ys.getD i default)) (by simp only [go_sem]) ?_
          simp only [go_sem]
          by_cases h4 : xs.getD i default = ys.getD i default
          · simp only [go_sem, hw3, h4]
            refine again_intro (i + 1) ⟨by omega, fun j hj => ?_⟩ (by omega) ?_
            · by_cases hji : j < i
              · exact he j hji
              · have : j = i := by omega
                subst this
                exact h4
            · simp only [go_sem]
              try trivial
          · simp only [go_sem, h4]
            have : ¬ xs = ys := fun e => h4 (by rw [e])
            simp only [this, decide_false]
      · simp only [go_sem]
        have : i = xs.length := by omega
        subst this
        have : xs = ys := ext_getD hll he
        simp only [this, decide_true]
theorem ok65 (p q : Prf) : VCalls gz 65 [p.enc false, q.enc false] none (fun y _ => y = .lit (.bool (decide (p = q)))) := by
  refine VCalls.go (nt := 27) (keep := [0, 1, 2, 3, 4, 9, 14, 20, 26]) (muts := []) (mvs := []) [] f65_at rfl (by kernel_rfl) rfl (by kernel_rfl) rfl (fun i h => by cases h) rfl ?_
  intro hok
  simp only [go_sem] at hok
  simp only [Tryz.f65, Func.code, Option.getD_some]
  simp only [go_sem]
  first | refine branch_ndec (fun h1 => ?_) (fun h1 => ?_) | refine branch_dec (fun h1 => ?_) (fun h1 => ?_) | refine branch_nbool (fun h1 => ?_) (fun h1 => ?_) | refine branch_split (fun h1 => ?_) (fun h1 => ?_)
  rotate_left
  · have : ¬ p = q := fun e => h1 (by rw [e])
    simp only [go_sem, this]
  simp only [go_sem]
  first | refine branch_ndec (fun h2 => ?_) (fun h2 => ?_) | refine branch_dec (fun h2 => ?_) (fun h2 => ?_) | refine branch_nbool (fun h2 => ?_) (fun h2 => ?_) | refine branch_split (fun h2 => ?_) (fun h2 => ?_)
  rotate_left
  · have : ¬ p = q := fun e => h2 (by rw [e])
    simp only [go_sem, this]
  simp only [go_sem]
  refine call_lend ?_
  simp only [go_sem]
  refine callN.eq (ok68 p.bys q.bys) (by simp only [go_sem]) ?_
  simp only [go_sem]
  by_cases h3 : p.bys = q.bys
  rotate_left
  · have : ¬ p = q := fun e => h3 (by rw [e])
    simp only [go_sem, h3, this]
  simp only [go_sem, eq_true h3]
  refine call_lend ?_
  simp only [go_sem]
  refine callN.eq (ok68 p.tags q.tags) (by simp only [go_sem]) ?_
  simp only [go_sem]
  by_cases h4 : p.tags = q.tags
  rotate_left
  · have : ¬ p = q := fun e => h4 (by rw [e])
    simp only [go_sem, h4, this]
  simp only [go_sem, eq_true h4]
  have : p = q := by cases p; cases q; simp_all
  simp only [go_sem, eq_true this]
theorem ok79 (p q : Blk) : VCalls gz 79 [p.enc false, q.enc false] none (fun y _ => y = .lit (.bool (decide (p = q)))) := by
  refine VCalls.go (nt := 32) (keep := [0, 1, 2, 3, 4, 9, 14, 20, 26, 31]) (muts := []) (mvs := []) [] f79_at rfl (by kernel_rfl) rfl (by kernel_rfl) rfl (fun i h => by cases h) rfl ?_
  intro hok
  simp only [go_sem] at hok
  simp only [Tryz.f79, Func.code, Option.getD_some]
  simp only [go_sem]
  first | refine branch_ndec (fun h1 => ?_) (fun h1 => ?_) | refine branch_dec (fun h1 => ?_) (fun h1 => ?_) | refine branch_nbool (fun h1 => ?_) (fun h1 => ?_) | refine branch_split (fun h1 => ?_) (fun h1 => ?_)
  rotate_left
  · have : ¬ p = q := fun e => h1 (by rw [e])
    simp only [go_sem, this]
  simp only [go_sem]
  first | refine branch_ndec (fun h2 => ?_) (fun h2 => ?_) | refine branch_dec (fun h2 => ?_) (fun h2 => ?_) | refine branch_nbool (fun h2 => ?_) (fun h2 => ?_) | refine branch_split (fun h2 => ?_) (fun h2 => ?_)
  rotate_left
  · have : ¬ p = q := fun e => h2 (by rw [e])
    simp only [go_sem, this]
  simp only [go_sem]
  refine call_lend ?_
  simp only [go_sem]
  refine callN.eq (ok65 p.proof q.proof) (by simp only [go_sem]) ?_
  simp only [go_sem]
  by_cases h3 : p.proof = q.proof
  rotate_left
  · have : ¬ p = q := fun e => h3 (by rw [e])
    simp only [go_sem, h3, this]
  simp only [go_sem, eq_true h3]
  refine call_lend ?_
  simp only [go_sem]
  refine callN.eq (ok124 p.moves q.moves) (by simp only [go_sem]) ?_
  simp only [go_sem]
  by_cases h4 : p.moves = q.moves
  rotate_left
  · have : ¬ p = q := fun e => h4 (by rw [e])
    simp only [go_sem, h4, this]
  simp only [go_sem, eq_true h4]
  first | refine branch_ndec (fun h5 => ?_) (fun h5 => ?_) | refine branch_dec (fun h5 => ?_) (fun h5 => ?_) | refine branch_nbool (fun h5 => ?_) (fun h5 => ?_) | refine branch_split (fun h5 => ?_) (fun h5 => ?_)
  rotate_left
  · have : ¬ p = q := fun e => h5 (by rw [e])
    simp only [go_sem, this]
  simp only [go_sem]
  have : p = q := by cases p; cases q; simp_all
  simp only [go_sem, eq_true this]
theorem ok21 (xs ys : List Blk) : VCalls gz 21 [.lst false 8 (xs.map (Blk.enc false)), .lst false 8 (ys.map (Blk.enc false))] none (fun y _ => y = .lit (.bool (decide (xs = ys)))) := by
  refine VCalls.go (nt := 27) (keep := [0, 1, 4, 5, 10, 14, 26]) (muts := []) (mvs := []) [(6, .tree true (.take 0 (.take 1 (.take 2 (.take 3 (.take 4 (.take 5 (.take 6 (.take 7 (.all (.cons 8 (.take 9 .done) .nil)))))))))))] f21_at rfl (by kernel_rfl) rfl (by kernel_rfl) rfl (fun i h => by cases h) rfl ?_
  intro hok
  simp only [go_sem] at hok
  simp only [Tryz.f21, Func.code, Option.getD_some]
  simp only [go_sem]
  intro hm hm2
  first | refine branch_ndec (fun h => ?_) (fun h => ?_) | refine branch_dec (fun h => ?_) (fun h => ?_) | refine branch_nbool (fun h => ?_) (fun h => ?_) | refine branch_split (fun h => ?_) (fun h => ?_)
  rotate_left
  · simp only [go_sem]
    have : ¬ xs = ys := fun e => h (by rw [e])
    simp only [this, decide_false]
  · have hll : xs.length = ys.length := by omega
    simp only [go_sem]
    refine vm_loopK (α := Nat) (fun i => [(0, .lst false 8 (xs.map (Blk.enc false))), (1, .lst false 8 (ys.map (Blk.enc false))), (4, .lit (.bool false)), (5, .lit (.int .i64 i))]) (fun i => i ≤ xs.length ∧ ∀ j, j < i → xs.getD j default = ys.getD j default) (fun i => xs.length - i) 0 ?_ ⟨by omega, fun j hj => by omega⟩ (by kernel_rfl) (fun _ => rfl) ?_
    · simp only [go_sem]
      try trivial
    · rintro i ⟨hi, he⟩ hk
      simp only [go_sem]
      intro _
      first | refine branch_ndec (fun h2 => ?_) (fun h2 => ?_) | refine branch_dec (fun h2 => ?_) (fun h2 => ?_) | refine branch_nbool (fun h2 => ?_) (fun h2 => ?_) | refine branch_split (fun h2 => ?_) (fun h2 => ?_)
      · have hlt : i < xs.length := by omega
        have hlt2 : i < ys.length := by omega
        have h0 : (0 : Int) ≤ (i : Int) := by omega
        have h3 : (i : Int) < (ys.length : Int) := by omega
        have hw3 : IntKind.i64.wrap ((i : Int) + 1) = ((i + 1 : Nat) : Int) := by rw [wrap64 (by omega) (by omega)]; omega
        simp only [go_sem, h0, hlt, h2, hlt2, h3]
        repeat' refine And.intro ?_ ?_
        all_goals
          refine call_lend ?_
          simp only [go_sem]
          refine callN.eq (ok79 (xs.getD i default) (ys.getD i default)) (by simp only [go_sem]) ?_
          simp only [go_sem]
          by_cases h4 : xs.getD i default = ys.getD i default
          · simp only [go_sem, hw3, h4]
            refine again_intro (i + 1) ⟨by omega, fun j hj => ?_⟩ (by omega) ?_
            · by_cases hji : j < i
              · exact he j hji
              · have : j = i := by omega
                subst this
                exact h4
            · simp only [go_sem]
              try trivial
          · simp only [go_sem, h4]
            have : ¬ xs = ys := fun e => h4 (by rw [e])
            simp only [this, decide_false]
      · simp only [go_sem]
        have : i = xs.length := by omega
        subst this
        have : xs = ys := ext_getD hll he
        simp only [this, decide_true]
theorem ok13 (p q : Rpl) : VCalls gz 13 [p.enc false, q.enc false] none (fun y _ => y = .lit (.bool (decide (p = q)))) := by
  refine VCalls.go (nt := 65) (keep := [0, 1, 2, 3, 4, 9, 14, 19, 24, 29, 34, 40, 46, 52, 58, 64]) (muts := []) (mvs := []) [] f13_at rfl (by kernel_rfl) rfl (by kernel_rfl) rfl (fun i h => by cases h) rfl ?_
  intro hok
  simp only [go_sem] at hok
  simp only [Tryz.f13, Func.code, Option.getD_some]
  simp only [go_sem]
  first | refine branch_ndec (fun h1 => ?_) (fun h1 => ?_) | refine branch_dec (fun h1 => ?_) (fun h1 => ?_) | refine branch_nbool (fun h1 => ?_) (fun h1 => ?_) | refine branch_split (fun h1 => ?_) (fun h1 => ?_)
  rotate_left
  · have : ¬ p = q := fun e => h1 (by rw [e])
    simp only [go_sem, this]
  simp only [go_sem]
  first | refine branch_ndec (fun h2 => ?_) (fun h2 => ?_) | refine branch_dec (fun h2 => ?_) (fun h2 => ?_) | refine branch_nbool (fun h2 => ?_) (fun h2 => ?_) | refine branch_split (fun h2 => ?_) (fun h2 => ?_)
  rotate_left
  · have : ¬ p = q := fun e => h2 (by rw [e])
    simp only [go_sem, this]
  simp only [go_sem]
  first | refine branch_ndec (fun h3 => ?_) (fun h3 => ?_) | refine branch_dec (fun h3 => ?_) (fun h3 => ?_) | refine branch_nbool (fun h3 => ?_) (fun h3 => ?_) | refine branch_split (fun h3 => ?_) (fun h3 => ?_)
  rotate_left
  · have : ¬ p = q := fun e => h3 (by rw [e])
    simp only [go_sem, this]
  simp only [go_sem]
  first | refine branch_ndec (fun h4 => ?_) (fun h4 => ?_) | refine branch_dec (fun h4 => ?_) (fun h4 => ?_) | refine branch_nbool (fun h4 => ?_) (fun h4 => ?_) | refine branch_split (fun h4 => ?_) (fun h4 => ?_)
  rotate_left
  · have : ¬ p = q := fun e => h4 (by rw [e])
    simp only [go_sem, this]
  simp only [go_sem]
  first | refine branch_ndec (fun h5 => ?_) (fun h5 => ?_) | refine branch_dec (fun h5 => ?_) (fun h5 => ?_) | refine branch_nbool (fun h5 => ?_) (fun h5 => ?_) | refine branch_split (fun h5 => ?_) (fun h5 => ?_)
  rotate_left
  · have : ¬ p = q := fun e => h5 (by rw [e])
    simp only [go_sem, this]
  simp only [go_sem]
  first | refine branch_ndec (fun h6 => ?_) (fun h6 => ?_) | refine branch_dec (fun h6 => ?_) (fun h6 => ?_) | refine branch_nbool (fun h6 => ?_) (fun h6 => ?_) | refine branch_split (fun h6 => ?_) (fun h6 => ?_)
  rotate_left
  · have : ¬ p = q := fun e => h6 (by rw [e])
    simp only [go_sem, this]
  simp only [go_sem]
  refine call_lend ?_
  simp only [go_sem]
  refine callN.eq (ok65 p.high q.high) (by simp only [go_sem]) ?_
  simp only [go_sem]
  by_cases h7 : p.high = q.high
  rotate_left
  · have : ¬ p = q := fun e => h7 (by rw [e])
    simp only [go_sem, h7, this]
  simp only [go_sem, eq_true h7]
  refine call_lend ?_
  simp only [go_sem]
  refine callN.eq (ok21 p.blocks q.blocks) (by simp only [go_sem]) ?_
  simp only [go_sem]
  by_cases h8 : p.blocks = q.blocks
  rotate_left
  · have : ¬ p = q := fun e => h8 (by rw [e])
    simp only [go_sem, h8, this]
  simp only [go_sem, eq_true h8]
  refine call_lend ?_
  simp only [go_sem]
  refine callN.eq (ok66 p.votes q.votes) (by simp only [go_sem]) ?_
  simp only [go_sem]
  by_cases h9 : p.votes = q.votes
  rotate_left
  · have : ¬ p = q := fun e => h9 (by rw [e])
    simp only [go_sem, h9, this]
  simp only [go_sem, eq_true h9]
  refine call_lend ?_
  simp only [go_sem]
  refine callN.eq (ok67 p.news q.news) (by simp only [go_sem]) ?_
  simp only [go_sem]
  by_cases h10 : p.news = q.news
  rotate_left
  · have : ¬ p = q := fun e => h10 (by rw [e])
    simp only [go_sem, h10, this]
  simp only [go_sem, eq_true h10]
  refine call_lend ?_
  simp only [go_sem]
  refine callN.eq (ok68 p.done q.done) (by simp only [go_sem]) ?_
  simp only [go_sem]
  by_cases h11 : p.done = q.done
  rotate_left
  · have : ¬ p = q := fun e => h11 (by rw [e])
    simp only [go_sem, h11, this]
  simp only [go_sem, eq_true h11]
  have : p = q := by cases p; cases q; simp_all
  simp only [go_sem, eq_true this]
end Go.VS
