import Derived.Test.YtplkhmfoehjaoaaPFnExactMovedx
namespace Go.Proofs.Ytplkhmfoehjaoaa.PFnExactMoved
open Go.RowKit Go.Proofs.YtplkhmfoehjaoaaW.PrintWords Go.Proofs.YtplkhmfoehjaoaaW.PrintLast Go.Proofs.YtplkhmfoehjaoaaW.PrintMore
set_option linter.unusedVariables false
set_option linter.unusedSimpArgs false

theorem w64 {x : Int} (h0 : -9223372036854775808 ≤ x) (h1 : x ≤ 9223372036854775807) : wrap64 x = x := by unfold wrap64; omega
theorem rd_nat (xs : List Int) (i : Nat) : rd xs (i : Int) = xs.getD i 0 := by simp [rd]
theorem rd_lt {xs : List Int} {i : Nat} (h : i < xs.length) : rd xs (i : Int) = xs[i] := by rw [rd_nat]; simp [List.getD, List.getElem?_eq_getElem h]

theorem toInt64S_loop (l : List Int) (hl : l.length ≤ 35184372088832) : ∀ (d i : Nat) (acc : List Int), i + d = l.length → acc.length = l.length → acc.take i = l.take i → ∃ k, laws_toInt64S.l0 k l acc i = some l := by
  intro d
  induction d with
  | zero =>
    intro i acc hi ha ht
    refine ⟨1, ?_⟩
    simp only [laws_toInt64S.l0]
    rw [if_neg (by omega)]
    have : acc = l := by
      rw [List.take_of_length_le (by omega), List.take_of_length_le (by omega)] at ht
      exact ht
    rw [this]
  | succ d ih =>
    intro i acc hi ha ht
    obtain ⟨k, hk⟩ := ih (i + 1) (acc.set i l[i]) (by omega) (by simp [ha]) (by
      apply List.ext_getElem
      · simp; omega
      · intro j h1 h2
        simp at h1 h2
        simp only [List.getElem_take]
        by_cases e : j = i
        · subst e; simp
        · rw [List.getElem_set_ne (by omega)]
          have := congrArg (fun x => x[j]?) ht
          simp only [List.getElem?_take] at this
          rw [if_pos (by omega), if_pos (by omega), List.getElem?_eq_getElem (by omega), List.getElem?_eq_getElem (by omega)] at this
          exact Option.some.inj this)
    refine ⟨k + 1, ?_⟩
    simp only [laws_toInt64S.l0]
    rw [if_pos (by omega), if_pos (by omega), if_pos (by omega), w64 (by omega) (by omega), rd_lt (by omega)]
    have e1 : ((i : Int) + 1) = ((i + 1 : Nat) : Int) := by omega
    rw [e1]
    simpa using hk
theorem toInt64S_eq (l : List Int) (hl : l.length ≤ 35184372088832) : ∃ k, laws_toInt64S.f k l = some l := by
  obtain ⟨k, hk⟩ := toInt64S_loop l hl l.length 0 (List.replicate l.length 0) (by omega) (by simp) (by simp)
  refine ⟨k, ?_⟩
  unfold laws_toInt64S.f
  rw [if_pos (by omega), if_pos (by simpa using hl)]
  simpa using hk
theorem toBank_eq (l m : List Int) (hl : l.length ≤ 35184372088832) (hm : m.length ≤ 35184372088832) : ∃ k, laws_toBank.f k l m = some (l, m) := by
  obtain ⟨k1, h1⟩ := toInt64S_eq l hl
  obtain ⟨k2, h2⟩ := toInt64S_eq m hm
  refine ⟨max k1 k2, ?_⟩
  unfold laws_toBank.f
  rw [at_rounds (laws_toInt64S.mono l) (Nat.le_max_left k1 k2) h1, at_rounds (laws_toInt64S.mono m) (Nat.le_max_right k1 k2) h2]
  rfl
theorem eqInt64S_loop (l : List Int) (hl : l.length ≤ 35184372088832) : ∀ (d i : Nat), i + d = l.length → ∃ k, laws_eqInt64S.l0 k l l i = some true := by
  intro d
  induction d with
  | zero => intro i hi; refine ⟨1, ?_⟩; simp only [laws_eqInt64S.l0]; rw [if_neg (by omega)]
  | succ d ih =>
    intro i hi
    obtain ⟨k, hk⟩ := ih (i + 1) (by omega)
    refine ⟨k + 1, ?_⟩
    simp only [laws_eqInt64S.l0]
    rw [if_pos (by omega), if_pos (by omega), if_pos (by omega), if_pos trivial, w64 (by omega) (by omega)]
    exact hk
theorem eqInt64S_eq (l : List Int) (hl : l.length ≤ 35184372088832) : ∃ k, laws_eqInt64S.f k l l = some true := by
  obtain ⟨k, hk⟩ := eqInt64S_loop l hl l.length 0 (by omega)
  exact ⟨k, by unfold laws_eqInt64S.f; rw [if_pos rfl]; simpa using hk⟩
theorem eqBank_eq (l m : List Int) (hl : l.length ≤ 35184372088832) (hm : m.length ≤ 35184372088832) : ∃ k, laws_eqBank.f k l m l m = some true := by
  obtain ⟨k1, h1⟩ := eqInt64S_eq l hl
  obtain ⟨k2, h2⟩ := eqInt64S_eq m hm
  refine ⟨max k1 k2, ?_⟩
  unfold laws_eqBank.f
  rw [at_rounds (laws_eqInt64S.mono l l) (Nat.le_max_left k1 k2) h1, at_rounds (laws_eqInt64S.mono m m) (Nat.le_max_right k1 k2) h2]
  rfl
/-- a, a + 1, .. -/
def marks (a : Int) : Nat → List Int
  | 0 => []
  | n + 1 => a :: marks (a + 1) n
theorem marks_length (n : Nat) : ∀ a, (marks a n).length = n := by induction n with
  | zero => intro a; rfl
  | succ n ih => intro a; simp [marks, ih]
theorem marks_get (n : Nat) : ∀ (a : Int) (i : Nat) (h : i < (marks a n).length), (marks a n)[i] = a + i := by induction n with
  | zero => intro a i h; simp [marks] at h
  | succ n ih =>
    intro a i h
    cases i with
    | zero => simp [marks]
    | succ i => simp only [marks, List.getElem_cons_succ]; rw [ih]; omega
theorem mark_loop (n : Nat) (a : Int) (ha : 0 ≤ a) (hn : a + n ≤ 9000000000000000000) : ∀ (d i : Nat) (acc : List Int), i + d = n → acc.length = n → acc.take i = (marks a n).take i → ∃ k, laws_markInt64S.l0 k acc (a + i) i = some (a + n, marks a n) := by
  intro d
  induction d with
  | zero =>
    intro i acc hi hl ht
    refine ⟨1, ?_⟩
    simp only [laws_markInt64S.l0]
    rw [if_neg (by omega)]
    rw [List.take_of_length_le (by omega), List.take_of_length_le (by rw [marks_length]; omega)] at ht
    rw [ht]
    have : i = n := by omega
    rw [this]
  | succ d ih =>
    intro i acc hi hl ht
    obtain ⟨k, hk⟩ := ih (i + 1) (acc.set i (a + i)) (by omega) (by simp [hl]) (by
      apply List.ext_getElem
      · simp [marks_length]; omega
      · intro j h1 h2
        simp [marks_length] at h1 h2
        simp only [List.getElem_take]
        by_cases e : j = i
        · subst e; rw [List.getElem_set_self, marks_get]
        · rw [List.getElem_set_ne (by omega)]
          have := congrArg (fun x => x[j]?) ht
          simp only [List.getElem?_take] at this
          rw [if_pos (by omega), if_pos (by omega), List.getElem?_eq_getElem (by omega), List.getElem?_eq_getElem (by rw [marks_length]; omega)] at this
          exact Option.some.inj this)
    refine ⟨k + 1, ?_⟩
    simp only [laws_markInt64S.l0]
    rw [if_pos (by omega), if_pos (by omega), w64 (by omega) (by omega), w64 (by omega) (by omega)]
    have e1 : ((i : Int) + 1) = ((i + 1 : Nat) : Int) := by omega
    have e2 : (a + (i : Int) + 1) = a + ((i + 1 : Nat) : Int) := by omega
    rw [e1, e2]
    simpa using hk
theorem mark_eq (l : List Int) (a : Int) (ha : 0 ≤ a) (hn : a + l.length ≤ 9000000000000000000) : ∃ k, laws_markInt64S.f k l a = some (a + l.length, marks a l.length) := by
  obtain ⟨k, hk⟩ := mark_loop l.length a ha hn l.length 0 l (by omega) rfl (by simp)
  exact ⟨k, by unfold laws_markInt64S.f; simpa using hk⟩
theorem held_loop (n : Nat) (a : Int) (ha : 0 ≤ a) (hn : a + n ≤ 9000000000000000000) : ∀ (d i : Nat), i + d = n → ∃ k, laws_heldInt64S.l0 k (marks a n) (a + i) i = some (a + n) := by
  intro d
  induction d with
  | zero => intro i hi; refine ⟨1, ?_⟩; simp only [laws_heldInt64S.l0]; rw [if_neg (by rw [marks_length]; omega)]; have : i = n := by omega
            rw [this]
  | succ d ih =>
    intro i hi
    obtain ⟨k, hk⟩ := ih (i + 1) (by omega)
    refine ⟨k + 1, ?_⟩
    have hlt : i < (marks a n).length := by rw [marks_length]; omega
    simp only [laws_heldInt64S.l0]
    rw [if_pos (by omega), if_pos (by omega), rd_lt hlt, marks_get, if_pos rfl, w64 (by omega) (by omega), w64 (by omega) (by omega)]
    have e1 : ((i : Int) + 1) = ((i + 1 : Nat) : Int) := by omega
    have e2 : (a + (i : Int) + 1) = a + ((i + 1 : Nat) : Int) := by omega
    rw [e1, e2]
    simpa using hk
theorem held_eq (n : Nat) (a : Int) (ha : 0 ≤ a) (hn : a + n ≤ 9000000000000000000) : ∃ k, laws_heldInt64S.f k (marks a n) a = some (a + n) := by
  obtain ⟨k, hk⟩ := held_loop n a ha hn n 0 (by omega)
  exact ⟨k, by unfold laws_heldInt64S.f; simpa using hk⟩
theorem markBank_eq (l m : List Int) (hn : l.length + m.length ≤ 1000000000) : ∃ k, laws_markBank.f k l m 1 = some (1 + (l.length : Int) + m.length, marks 1 l.length, marks (1 + l.length) m.length) := by
  obtain ⟨k1, h1⟩ := mark_eq l 1 (by omega) (by omega)
  obtain ⟨k2, h2⟩ := mark_eq m (1 + l.length) (by omega) (by omega)
  refine ⟨max k1 k2, ?_⟩
  unfold laws_markBank.f
  rw [at_rounds (laws_markInt64S.mono l 1) (Nat.le_max_left k1 k2) h1]
  simp only [Option.bind_some]
  rw [at_rounds (laws_markInt64S.mono m (1 + l.length)) (Nat.le_max_right k1 k2) h2]
  rfl
theorem heldBank_eq (a b : Nat) (hn : a + b ≤ 1000000000) : ∃ k, laws_heldBank.f k (marks 1 a) (marks (1 + a) b) 1 = some (1 + (a : Int) + b) := by
  obtain ⟨k1, h1⟩ := held_eq a 1 (by omega) (by omega)
  obtain ⟨k2, h2⟩ := held_eq b (1 + a) (by omega) (by omega)
  refine ⟨max k1 k2, ?_⟩
  unfold laws_heldBank.f
  rw [at_rounds (laws_heldInt64S.mono _ 1) (Nat.le_max_left k1 k2) h1]
  simp only [Option.bind_some]
  rw [if_neg (by omega), at_rounds (laws_heldInt64S.mono _ (1 + a)) (Nat.le_max_right k1 k2) h2]
  simp only [Option.bind_some]
  rw [if_neg (by omega)]
theorem szBank_eq (l m : List Int) (hl : l.length ≤ 9223372036854775807) (hm : m.length ≤ 9223372036854775807) : ∃ t, laws_szBank.f l m 1048576 = some t ∧ (0 ≤ t → l.length + m.length ≤ 1048576) := by
  unfold laws_szBank.f laws_szInt64S.f
  have e1 : wrap64 (1048576 - (l.length : Int)) = 1048576 - (l.length : Int) := w64 (by omega) (by omega)
  rw [e1]
  by_cases h1 : 1048576 - (l.length : Int) < 0
  · rw [if_pos h1]; simp only [Option.bind_some]; exact ⟨-1, by rw [if_pos (by omega)], by omega⟩
  · rw [if_neg h1]
    simp only [Option.bind_some]
    rw [if_neg h1]
    have e2 : wrap64 (1048576 - (l.length : Int) - m.length) = 1048576 - (l.length : Int) - m.length := w64 (by omega) (by omega)
    rw [e2]
    by_cases h2 : 1048576 - (l.length : Int) - m.length < 0
    · rw [if_pos h2]; simp only [Option.bind_some]; exact ⟨-1, by rw [if_pos (by omega)], by omega⟩
    · rw [if_neg h2]; simp only [Option.bind_some]; exact ⟨_, by rw [if_neg h2], by omega⟩
/-! the bank -/
def okM (x : Int) : Bool := decide (0 ≤ x ∧ x ≤ 1000000000)
def okC (x : Int) : Bool := decide (0 ≤ x ∧ x ≤ 1000000)
def bankOk (l m : List Int) : Bool := l.length == 8 && m.length == 8 && l.all okM && m.all okC && decide (l.sum ≤ 1000000000)
def moveOk (a b c d : Int) : Bool := decide (0 ≤ a ∧ a ≤ 7) && decide (0 ≤ b ∧ b ≤ 7) && decide (1 ≤ c ∧ c ≤ 1000000000) && decide (0 ≤ d ∧ d ≤ 999999)
theorem l1In_eq (a b c : Int) : spec_l1In.f a b c = some (decide (b ≤ a ∧ a ≤ c)) := by
  unfold spec_l1In.f
  by_cases h : b ≤ a
  · rw [if_pos h]; simp [h]
  · rw [if_neg h]; simp [h]
theorem within_eq (a b c : Int) : impl_within.f a b c = some (decide (b ≤ a ∧ a ≤ c)) := by
  unfold impl_within.f
  by_cases h : b ≤ a
  · rw [if_pos h]; simp [h]
  · rw [if_neg h]; simp [h]
theorem specMoveOk_eq (a b c d : Int) : spec_MoveOk.f a b c d = some (moveOk a b c d) := by
  unfold spec_MoveOk.f moveOk
  simp only [l1In_eq, Option.bind_some]
  cases decide (0 ≤ a ∧ a ≤ 7) <;> cases decide (0 ≤ b ∧ b ≤ 7) <;> cases decide (1 ≤ c ∧ c ≤ 1000000000) <;> simp
theorem implMoveOk_eq (a b c d : Int) : impl_MoveOk.f a b c d = some (moveOk a b c d) := by
  unfold impl_MoveOk.f impl_isAccount.f moveOk
  simp only [within_eq, Option.bind_some]
  cases decide (0 ≤ a ∧ a ≤ 7) <;> cases decide (0 ≤ b ∧ b ≤ 7) <;> cases decide (1 ≤ c ∧ c ≤ 1000000000) <;> simp
theorem specBank_loop (l m : List Int) (hl : l.length = 8) (hm : m.length = 8) : ∀ (d i : Nat) (s : Int), i + d = 8 → 0 ≤ s → s ≤ i * 1000000000 →
    ∃ k, spec_BankOk.l0 k s i l m = some ((l.drop i).all okM && (m.drop i).all okC && decide (s + (l.drop i).sum ≤ 1000000000)) := by
  intro d
  induction d with
  | zero =>
    intro i s hi h0 h1
    refine ⟨1, ?_⟩
    simp only [spec_BankOk.l0]
    rw [if_neg (by omega), List.drop_of_length_le (by omega), List.drop_of_length_le (by omega)]
    simp
  | succ d ih =>
    intro i s hi h0 h1
    rw [List.drop_eq_getElem_cons (show i < l.length by omega), List.drop_eq_getElem_cons (show i < m.length by omega)]
    simp only [List.all_cons, List.sum_cons]
    by_cases hM : okM l[i] = true
    · by_cases hC : okC m[i] = true
      · have hb := of_decide_eq_true hM
        obtain ⟨k, hk⟩ := ih (i + 1) (s + l[i]) (by omega) (by omega) (by omega)
        refine ⟨k + 1, ?_⟩
        simp only [spec_BankOk.l0]
        rw [if_pos (by omega), if_pos (by omega), if_pos (by omega)]
        simp only [spec_l12Value.f, l1In_eq, Option.bind_some, rd_lt (show i < l.length by omega), rd_lt (show i < m.length by omega)]
        rw [if_pos (show decide (0 ≤ l[i] ∧ l[i] ≤ 1000000000) = true from hM), if_pos (by omega), if_pos (show decide (0 ≤ m[i] ∧ m[i] ≤ 1000000) = true from hC), w64 (by omega) (by omega), w64 (by omega) (by omega)]
        have e1 : ((i : Int) + 1) = ((i + 1 : Nat) : Int) := by omega
        rw [e1, hk, hM, hC, Int.add_assoc]
        simp only [Bool.true_and]
        rfl
      · refine ⟨1, ?_⟩
        simp only [spec_BankOk.l0]
        rw [if_pos (by omega), if_pos (by omega), if_pos (by omega)]
        simp only [spec_l12Value.f, l1In_eq, Option.bind_some, rd_lt (show i < l.length by omega), rd_lt (show i < m.length by omega)]
        rw [if_pos (show decide (0 ≤ l[i] ∧ l[i] ≤ 1000000000) = true from hM), if_pos (by omega), if_neg (show ¬ decide (0 ≤ m[i] ∧ m[i] ≤ 1000000) = true from hC), (Bool.not_eq_true _).mp hC]
        simp
    · refine ⟨1, ?_⟩
      simp only [spec_BankOk.l0]
      rw [if_pos (by omega), if_pos (by omega), if_pos (by omega)]
      simp only [spec_l12Value.f, l1In_eq, Option.bind_some, rd_lt (show i < l.length by omega)]
      rw [if_neg (show ¬ decide (0 ≤ l[i] ∧ l[i] ≤ 1000000000) = true from hM), (Bool.not_eq_true _).mp hM]
      simp
theorem specBankOk_eq (l m : List Int) : ∃ k, spec_BankOk.f k l m = some (bankOk l m) := by
  unfold spec_BankOk.f bankOk
  by_cases hl : l.length = 8
  · by_cases hm : m.length = 8
    · obtain ⟨k, hk⟩ := specBank_loop l m hl hm 8 0 0 (by omega) (by omega) (by omega)
      refine ⟨k + 1, ?_⟩
      rw [if_pos (by omega)]
      simp only [spec_BankOk.j0]
      rw [if_neg (by simp; omega)]
      have : spec_BankOk.l0 k 0 0 l m = spec_BankOk.l0 k 0 ((0 : Nat) : Int) l m := rfl
      rw [this, hk]
      simp [hl, hm]
    · refine ⟨1, ?_⟩
      rw [if_pos (by omega)]
      simp only [spec_BankOk.j0]
      rw [if_pos (by simp; omega)]
      simp [hm]
  · refine ⟨1, ?_⟩
    rw [if_neg (by omega)]
    simp [spec_BankOk.j0, hl]
theorem sumOf_loop (l : List Int) (hl : l.length = 8) (h : ∀ x ∈ l, 0 ≤ x ∧ x ≤ 1000000000) : ∀ (d i : Nat) (s : Int), i + d = 8 → 0 ≤ s → s ≤ i * 1000000000 → ∃ k, impl_sumOf.l0 k s l l.length i = some (s + (l.drop i).sum) := by
  intro d
  induction d with
  | zero => intro i s hi h0 h1; refine ⟨1, ?_⟩; simp only [impl_sumOf.l0]; rw [if_neg (by omega), List.drop_of_length_le (by omega)]; simp
  | succ d ih =>
    intro i s hi h0 h1
    have hb := h l[i] (List.getElem_mem (by omega))
    obtain ⟨k, hk⟩ := ih (i + 1) (s + l[i]) (by omega) (by omega) (by omega)
    refine ⟨k + 1, ?_⟩
    simp only [impl_sumOf.l0]
    rw [if_pos (by omega), if_pos (by omega), if_pos (by omega), rd_lt (show i < l.length by omega), w64 (by omega) (by omega), w64 (by omega) (by omega)]
    have e1 : ((i : Int) + 1) = ((i + 1 : Nat) : Int) := by omega
    have e2 : (l.drop i).sum = l[i] + (l.drop (i + 1)).sum := by rw [List.drop_eq_getElem_cons (show i < l.length by omega), List.sum_cons]
    rw [e1, hk, e2, Int.add_assoc]
theorem implBankOk_eq (l m : List Int) : ∃ k, impl_BankOk.f k l m = some (bankOk l m) := by
  unfold impl_BankOk.f bankOk impl_areWithin.f
  simp only [Option.bind_some]
  by_cases hl : l.length = 8
  · by_cases hM : l.all okM = true
    · obtain ⟨k, hk⟩ := sumOf_loop l hl (fun x hx => of_decide_eq_true (List.all_eq_true.mp hM x hx)) 8 0 0 (by omega) (by omega) (by omega)
      refine ⟨k, ?_⟩
      rw [if_pos (by rw [hl]; exact hM)]
      have : impl_sumOf.f k l = some (l.sum) := by
        unfold impl_sumOf.f
        simpa using hk
      rw [this]
      simp only [Option.bind_some]
      by_cases hC : (m.length == 8 && m.all okC) = true
      · rw [if_pos (show (m.length == 8 && m.all fun x => decide (0 ≤ x ∧ x ≤ 1000000)) = true from hC)]
        simp only [Bool.and_eq_true] at hC
        simp [hl, hC.1, hC.2, hM]
      · rw [if_neg (show ¬ (m.length == 8 && m.all fun x => decide (0 ≤ x ∧ x ≤ 1000000)) = true from hC)]
        rw [Bool.not_eq_true] at hC
        cases h1 : (m.length == 8) <;> cases h2 : m.all okC <;> simp [h1, h2] at hC ⊢
    · refine ⟨0, ?_⟩
      rw [if_neg (show ¬ (l.length == 8 && l.all fun x => decide (0 ≤ x ∧ x ≤ 1000000000)) = true from fun h => hM (by simp only [Bool.and_eq_true] at h; exact h.2))]
      rw [Bool.not_eq_true] at hM
      simp [hM]
  · refine ⟨0, ?_⟩
    rw [if_neg (by simp [hl])]
    simp [hl]
/-- What both Moved tell: money, counts, code. -/
def moved (l m : List Int) (a b c d : Int) : List Int × List Int × Int :=
  if bankOk l m && moveOk a b c d then
    if d ≠ rd m a then (l, m, 2) else if rd l a < c then (l, m, 3)
    else let y := l.set a.toNat (wrap64 (rd l a - c)); (y.set b.toNat (wrap64 (rd y b + c)), m.set a.toNat (wrap64 (rd m a + 1)), 0)
  else ([], [], 1)
theorem moveOk_range {a b c d : Int} (h : moveOk a b c d = true) : 0 ≤ a ∧ a ≤ 7 ∧ 0 ≤ b ∧ b ≤ 7 := by
  unfold moveOk at h
  simp only [Bool.and_eq_true, decide_eq_true_eq] at h
  omega
theorem bankOk_len {l m : List Int} (h : bankOk l m = true) : l.length = 8 ∧ m.length = 8 := by
  unfold bankOk at h
  simp only [Bool.and_eq_true, beq_iff_eq] at h
  exact ⟨h.1.1.1.1, h.1.1.1.2⟩
theorem specMoved_eq (l m : List Int) (a b c d : Int) : ∃ k, spec_Moved.f k l m a b c d = some (moved l m a b c d) := by
  obtain ⟨k0, h0⟩ := specBankOk_eq l m
  have hk : ∀ k, k0 ≤ k → spec_BankOk.f k l m = some (bankOk l m) := fun k hk => at_rounds (spec_BankOk.mono l m) hk h0
  refine ⟨k0 + 1, ?_⟩
  unfold spec_Moved.f moved
  rw [hk _ (by omega)]
  simp only [Option.bind_some, specMoveOk_eq]
  by_cases hb : bankOk l m = true
  · rw [if_pos hb]
    by_cases hm : moveOk a b c d = true
    · obtain ⟨h1, h2, h3, h4⟩ := moveOk_range hm
      obtain ⟨h5, h6⟩ := bankOk_len hb
      simp only [spec_Moved.j0, hm, Bool.not_true, Bool.false_eq_true, if_false, spec_l13Copy.f, Option.bind_some, List.nil_append, List.length_nil, hb, Bool.and_self, if_true]
      rw [if_pos (by omega), if_pos (by omega)]
      simp only [Option.bind_some]
      rw [if_pos h1, if_pos (by omega)]
      by_cases hd : d = rd m a
      · rw [if_pos hd, if_pos (by omega), if_neg (show ¬ d ≠ rd m a by simpa using hd)]
        by_cases hc : rd l a < c
        · rw [if_pos hc, if_pos hc]
        · rw [if_neg hc, if_neg hc, if_pos (by omega), if_pos h3, if_pos (by omega), if_pos (by omega)]
      · rw [if_neg hd, if_pos hd]
    · rw [Bool.not_eq_true] at hm
      simp [spec_Moved.j0, hm]
  · rw [if_neg hb]
    rw [Bool.not_eq_true] at hb
    simp [spec_Moved.j0, hb]
theorem implMoved_eq (l m : List Int) (a b c d : Int) : ∃ k, impl_Moved.f k l m a b c d = some (moved l m a b c d) := by
  obtain ⟨k0, h0⟩ := implBankOk_eq l m
  have hk : ∀ k, k0 ≤ k → impl_BankOk.f k l m = some (bankOk l m) := fun k hk => at_rounds (impl_BankOk.mono l m) hk h0
  refine ⟨k0 + 1, ?_⟩
  unfold impl_Moved.f moved
  rw [hk _ (by omega)]
  simp only [Option.bind_some, implMoveOk_eq]
  by_cases hb : bankOk l m = true
  · rw [if_pos hb]
    by_cases hm : moveOk a b c d = true
    · obtain ⟨h1, h2, h3, h4⟩ := moveOk_range hm
      obtain ⟨h5, h6⟩ := bankOk_len hb
      simp only [impl_Moved.j0, hm, Bool.not_true, Bool.false_eq_true, if_false, impl_Bank_own.f, slices_Clone_int64_int64.f, impl_Bank_move.f, implMoveOk_eq, Option.bind_some, List.length_nil, hb, Bool.and_self, if_true]
      rw [if_pos (by omega)]
      simp only [Option.bind_some]
      rw [if_pos (by omega)]
      simp only [Option.bind_some]
      rw [if_pos h1, if_pos (by omega)]
      by_cases hd : d = rd m a
      · rw [if_pos hd, if_pos (by omega), if_neg (show ¬ d ≠ rd m a by simpa using hd)]
        by_cases hc : rd l a < c
        · rw [if_pos hc, if_pos hc]; rfl
        · rw [if_neg hc, if_neg hc, if_pos h3, if_pos (by omega)]; rfl
      · rw [if_neg hd, if_pos hd]; rfl
    · rw [Bool.not_eq_true] at hm
      simp [impl_Moved.j0, hm]
  · rw [if_neg hb]
    rw [Bool.not_eq_true] at hb
    simp [impl_Moved.j0, hb]
theorem moved_len (l m : List Int) (a b c d : Int) : (moved l m a b c d).1.length ≤ 8 ∧ (moved l m a b c d).2.1.length ≤ 8 := by
  unfold moved
  split
  · rename_i h
    simp only [Bool.and_eq_true] at h
    obtain ⟨h5, h6⟩ := bankOk_len h.1
    split
    · simp; omega
    · split <;> simp <;> omega
  · simp
end Go.Proofs.Ytplkhmfoehjaoaa.PFnExactMoved
