/- VS: functions by the machine. -/
import Derived.Test.YtjpjfokhdogopaaGreatDoorVi
import Derived.Test.YtjpjfokhdogopaaGreatDoorVn
import Derived.Lib.IndexLaws
set_option linter.unusedSimpArgs false
set_option linter.unusedVariables false
open Go.Proofs
set_option maxRecDepth 20000
namespace Go.VS
theorem f136_at : gz.P.funcs[136]? = some Tryz.f136 := by
  have h : Tryz.prog.funcs[136]? = some Tryz.f136 := by kernel_rfl
  exact h
theorem pU_app (M : Nat) (r : List UInt8) : ∀ (l : List UInt8) (acc : Nat), Lib.parseUintM M acc (l ++ r) = match Lib.parseUintM M acc l with | .ok u => Lib.parseUintM M u r | e => e
  | [], acc => rfl
  | c :: l, acc => by
    simp only [List.cons_append, Lib.parseUintM]
    split
    · split
      · rfl
      · split
        · rfl
        · exact pU_app M r l _
    · rfl
theorem pU_dec (u : Nat) : u < 10000000000 → Lib.parseUintM (2 ^ 64 - 1) 0 (Lib.decDigits u) = .ok u := by
  induction u using Nat.strongRecOn with
  | _ u ih =>
    intro h
    rw [Lib.decDigits]
    split
    · rename_i h1
      have e : (UInt8.ofNat (48 + u)).toNat = 48 + u := by rw [UInt8.toNat_ofNat']; omega
      simp only [Lib.parseUintM, e]
      rw [if_pos (by omega), if_neg (by omega), if_neg (by omega)]
      congr 1
      omega
    · rename_i h1
      rw [pU_app, ih (u / 10) (by omega) (by omega)]
      have e : (UInt8.ofNat (48 + u % 10)).toNat = 48 + u % 10 := by rw [UInt8.toNat_ofNat']; omega
      simp only [Lib.parseUintM, e]
      rw [if_pos (by omega), if_neg (by omega), if_neg (by omega)]
      congr 1
      omega
theorem decDigits_head (u : Nat) : ∃ c r, Lib.decDigits u = c :: r ∧ 48 ≤ c.toNat ∧ c.toNat ≤ 57 := by
  induction u using Nat.strongRecOn with
  | _ u ih =>
    rw [Lib.decDigits]
    split
    · rename_i h1
      exact ⟨_, _, rfl, by rw [UInt8.toNat_ofNat']; omega, by rw [UInt8.toNat_ofNat']; omega⟩
    · obtain ⟨c, r, h1, h2⟩ := ih (u / 10) (by omega)
      rw [h1]
      exact ⟨_, _, rfl, h2⟩
theorem itoaB_toList (k : Nat) : (itoaB k).data.toList = Lib.decDigits k := by
  show (Lib.itoa k).toArray.toList = _
  rw [Lib.itoa_nonneg, List.toList_toArray]
theorem parse_itoaB {k : Nat} (h : k < 10000000000) : parsedV (itoaB k) = .tup [.lit (.int .i64 k), .lit .nilIface] := by
  have h1 : Lib.parseIntB 64 (itoaB k).data.toList = .ok (k : Int) := by
    rw [itoaB_toList]
    obtain ⟨c, r, h1, h2, h3⟩ := decDigits_head k
    have h4 := pU_dec k h
    rw [h1] at h4 ⊢
    unfold Lib.parseIntB
    simp only
    rw [if_neg (by omega)]
    unfold Lib.parseUintB
    rw [if_neg (by simp), h4]
    simp only
    rw [if_neg (by omega), if_neg (by omega), if_neg (by omega)]
  unfold parsedV
  rw [h1]
theorem trim_itoaB (k : Nat) : trimP (itoaB k) ⟨#[45]⟩ = itoaB k := by
  apply bext
  show (Lib.trimPrefix (itoaB k).data.toList [45]).toArray.toList = _
  rw [List.toList_toArray, itoaB_toList]
  obtain ⟨c, r, h1, h2, h3⟩ := decDigits_head k
  rw [h1]
  unfold Lib.trimPrefix Lib.hasPrefix
  rw [if_neg]
  simp only [List.isPrefixOf, Bool.and_true, beq_iff_eq]
  rintro rfl
  revert h2
  decide
theorem parsedV_cases (s : ByteArray) : (∃ v : Int, parsedV s = .tup [.lit (.int .i64 v), .lit .nilIface]) ∨ ∃ v : Int, parsedV s = .tup [.lit (.int .i64 v), .ifc] := by
  unfold parsedV
  split
  · exact .inl ⟨_, rfl⟩
  · exact .inr ⟨_, rfl⟩
  · exact .inr ⟨_, rfl⟩
theorem ok136 (s : ByteArray) (hs : s.size ≤ 4000000) (k : Nat) (h1k : 1 ≤ k) (hk : k < 10000000000) : VCalls gz 136 [.lit (.string s)] none (fun y _ => ∃ n b, y = .tup [.lit (.int .i64 n), .lit (.bool b)] ∧ (s = itoaB k → n = k ∧ b = true)) := by
  refine VCalls.go (nt := 24) (keep := [0, 2, 3, 4, 5, 9]) (muts := []) (mvs := []) [] f136_at rfl (by kernel_rfl) rfl (by kernel_rfl) rfl (fun i h => by cases h) rfl ?_
  intro hok
  simp only [go_sem, Nat.reduceAdd, Nat.reduceSub, Nat.reduceMul, Nat.reduceEqDiff, Nat.reduceBEq, Nat.reduceBNe, Nat.reduceLT, Nat.reduceLeDiff, Int.reduceNeg, Int.reduceAdd, Int.reduceSub, Int.reduceMul, Int.reduceEq, Int.reduceLT, Int.reduceLE, Int.reduceToNat, reduceIte, reduceCtorEq] at hok
  simp only [Tryz.f136, Func.code, Option.getD_some]
  simp only [go_sem, Nat.reduceAdd, Nat.reduceSub, Nat.reduceMul, Nat.reduceEqDiff, Nat.reduceBEq, Nat.reduceBNe, Nat.reduceLT, Nat.reduceLeDiff, Int.reduceNeg, Int.reduceAdd, Int.reduceSub, Int.reduceMul, Int.reduceEq, Int.reduceLT, Int.reduceLE, Int.reduceToNat, reduceIte, reduceCtorEq]
  refine call_lend ?_
  simp only [go_sem, Nat.reduceAdd, Nat.reduceSub, Nat.reduceMul, Nat.reduceEqDiff, Nat.reduceBEq, Nat.reduceBNe, Nat.reduceLT, Nat.reduceLeDiff, Int.reduceNeg, Int.reduceAdd, Int.reduceSub, Int.reduceMul, Int.reduceEq, Int.reduceLT, Int.reduceLE, Int.reduceToNat, reduceIte, reduceCtorEq]
  refine callN.eq (ok219 s ⟨#[45]⟩) (by simp only [go_sem, Nat.reduceAdd, Nat.reduceSub, Nat.reduceMul, Nat.reduceEqDiff, Nat.reduceBEq, Nat.reduceBNe, Nat.reduceLT, Nat.reduceLeDiff, Int.reduceNeg, Int.reduceAdd, Int.reduceSub, Int.reduceMul, Int.reduceEq, Int.reduceLT, Int.reduceLE, Int.reduceToNat, reduceIte, reduceCtorEq]) ?_
  simp only [go_sem, Nat.reduceAdd, Nat.reduceSub, Nat.reduceMul, Nat.reduceEqDiff, Nat.reduceBEq, Nat.reduceBNe, Nat.reduceLT, Nat.reduceLeDiff, Int.reduceNeg, Int.reduceAdd, Int.reduceSub, Int.reduceMul, Int.reduceEq, Int.reduceLT, Int.reduceLE, Int.reduceToNat, reduceIte, reduceCtorEq]
  intro _
  first | refine branch_ndec (fun h1 => ?_) (fun h1 => ?_) | refine branch_dec (fun h1 => ?_) (fun h1 => ?_) | refine branch_nbool (fun h1 => ?_) (fun h1 => ?_) | refine branch_split (fun h1 => ?_) (fun h1 => ?_)
  · simp only [go_sem, Nat.reduceAdd, Nat.reduceSub, Nat.reduceMul, Nat.reduceEqDiff, Nat.reduceBEq, Nat.reduceBNe, Nat.reduceLT, Nat.reduceLeDiff, Int.reduceNeg, Int.reduceAdd, Int.reduceSub, Int.reduceMul, Int.reduceEq, Int.reduceLT, Int.reduceLE, Int.reduceToNat, reduceIte, reduceCtorEq]
    refine ⟨_, _, ⟨rfl, rfl⟩, fun hn => ?_⟩
    subst hn
    rw [trim_itoaB] at h1
    have := (itoaB_num h1k hk).sz
    omega
  · simp only [go_sem, Nat.reduceAdd, Nat.reduceSub, Nat.reduceMul, Nat.reduceEqDiff, Nat.reduceBEq, Nat.reduceBNe, Nat.reduceLT, Nat.reduceLeDiff, Int.reduceNeg, Int.reduceAdd, Int.reduceSub, Int.reduceMul, Int.reduceEq, Int.reduceLT, Int.reduceLE, Int.reduceToNat, reduceIte, reduceCtorEq]
    have h220 := ok220 s (by omega)
    rcases parsedV_cases s with ⟨v, e⟩ | ⟨v, e⟩ <;> rw [e] at h220
    · refine call_lend ?_
      simp only [go_sem, Nat.reduceAdd, Nat.reduceSub, Nat.reduceMul, Nat.reduceEqDiff, Nat.reduceBEq, Nat.reduceBNe, Nat.reduceLT, Nat.reduceLeDiff, Int.reduceNeg, Int.reduceAdd, Int.reduceSub, Int.reduceMul, Int.reduceEq, Int.reduceLT, Int.reduceLE, Int.reduceToNat, reduceIte, reduceCtorEq]
      refine callN.eq (h220) (by simp only [go_sem, Nat.reduceAdd, Nat.reduceSub, Nat.reduceMul, Nat.reduceEqDiff, Nat.reduceBEq, Nat.reduceBNe, Nat.reduceLT, Nat.reduceLeDiff, Int.reduceNeg, Int.reduceAdd, Int.reduceSub, Int.reduceMul, Int.reduceEq, Int.reduceLT, Int.reduceLE, Int.reduceToNat, reduceIte, reduceCtorEq]) ?_
      simp only [go_sem, Nat.reduceAdd, Nat.reduceSub, Nat.reduceMul, Nat.reduceEqDiff, Nat.reduceBEq, Nat.reduceBNe, Nat.reduceLT, Nat.reduceLeDiff, Int.reduceNeg, Int.reduceAdd, Int.reduceSub, Int.reduceMul, Int.reduceEq, Int.reduceLT, Int.reduceLE, Int.reduceToNat, reduceIte, reduceCtorEq]
      refine call_lend ?_
      simp only [go_sem, Nat.reduceAdd, Nat.reduceSub, Nat.reduceMul, Nat.reduceEqDiff, Nat.reduceBEq, Nat.reduceBNe, Nat.reduceLT, Nat.reduceLeDiff, Int.reduceNeg, Int.reduceAdd, Int.reduceSub, Int.reduceMul, Int.reduceEq, Int.reduceLT, Int.reduceLE, Int.reduceToNat, reduceIte, reduceCtorEq]
      refine callN.eq (ok132 v) (by simp only [go_sem, Nat.reduceAdd, Nat.reduceSub, Nat.reduceMul, Nat.reduceEqDiff, Nat.reduceBEq, Nat.reduceBNe, Nat.reduceLT, Nat.reduceLeDiff, Int.reduceNeg, Int.reduceAdd, Int.reduceSub, Int.reduceMul, Int.reduceEq, Int.reduceLT, Int.reduceLE, Int.reduceToNat, reduceIte, reduceCtorEq]) ?_
      simp only [go_sem, Nat.reduceAdd, Nat.reduceSub, Nat.reduceMul, Nat.reduceEqDiff, Nat.reduceBEq, Nat.reduceBNe, Nat.reduceLT, Nat.reduceLeDiff, Int.reduceNeg, Int.reduceAdd, Int.reduceSub, Int.reduceMul, Int.reduceEq, Int.reduceLT, Int.reduceLE, Int.reduceToNat, reduceIte, reduceCtorEq]
      refine ⟨_, _, ⟨rfl, rfl⟩, fun hn => ?_⟩
      subst hn
      rw [parse_itoaB hk] at e
      cases e
      exact ⟨rfl, by simp⟩
    · refine call_lend ?_
      simp only [go_sem, Nat.reduceAdd, Nat.reduceSub, Nat.reduceMul, Nat.reduceEqDiff, Nat.reduceBEq, Nat.reduceBNe, Nat.reduceLT, Nat.reduceLeDiff, Int.reduceNeg, Int.reduceAdd, Int.reduceSub, Int.reduceMul, Int.reduceEq, Int.reduceLT, Int.reduceLE, Int.reduceToNat, reduceIte, reduceCtorEq]
      refine callN.eq (h220) (by simp only [go_sem, Nat.reduceAdd, Nat.reduceSub, Nat.reduceMul, Nat.reduceEqDiff, Nat.reduceBEq, Nat.reduceBNe, Nat.reduceLT, Nat.reduceLeDiff, Int.reduceNeg, Int.reduceAdd, Int.reduceSub, Int.reduceMul, Int.reduceEq, Int.reduceLT, Int.reduceLE, Int.reduceToNat, reduceIte, reduceCtorEq]) ?_
      simp only [go_sem, Nat.reduceAdd, Nat.reduceSub, Nat.reduceMul, Nat.reduceEqDiff, Nat.reduceBEq, Nat.reduceBNe, Nat.reduceLT, Nat.reduceLeDiff, Int.reduceNeg, Int.reduceAdd, Int.reduceSub, Int.reduceMul, Int.reduceEq, Int.reduceLT, Int.reduceLE, Int.reduceToNat, reduceIte, reduceCtorEq]
      refine ⟨_, _, ⟨rfl, rfl⟩, fun hn => ?_⟩
      subst hn
      rw [parse_itoaB hk] at e
      cases e
end Go.VS

set_option linter.unusedSimpArgs false
set_option linter.unusedVariables false
open Go.Proofs
set_option maxRecDepth 20000
namespace Go.VS
theorem decDigits_dig (u : Nat) : ∀ c ∈ Lib.decDigits u, 48 ≤ c.toNat := by
  induction u using Nat.strongRecOn with
  | _ u ih =>
    intro c hc
    rw [Lib.decDigits] at hc
    split at hc
    · simp only [List.mem_singleton] at hc
      subst hc
      rw [UInt8.toNat_ofNat']; omega
    · rw [List.mem_append] at hc
      rcases hc with hc | hc
      · exact ih (u / 10) (by omega) c hc
      · simp only [List.mem_singleton] at hc
        subst hc
        rw [UInt8.toNat_ofNat']; omega
theorem dec_no32 (u : Nat) : ∀ c ∈ Lib.decDigits u, c ≠ 32 := fun c hc h => by
  have := decDigits_dig u c hc
  subst h
  revert this
  decide
theorem cut_at : ∀ (A R : List UInt8), (∀ c ∈ A, c ≠ 32) → Lib.cut (A ++ 32 :: R) [32] = (A, R, true) := fun A R h => by
  have hi : Lib.index (A ++ 32 :: R) [32] = A.length := by
    refine Lib.index_hit (fun j hj => ?_) (by simp) ?_
    · have e : (A ++ 32 :: R).drop j = A[j] :: (A.drop (j + 1) ++ 32 :: R) := by
        rw [List.drop_append_of_le_length (by omega), List.drop_eq_getElem_cons hj]
        rfl
      unfold Lib.occAt
      rw [e]
      have := h A[j] (List.getElem_mem hj)
      simp [List.isPrefixOf, Ne.symm this]
    · unfold Lib.occAt
      rw [List.drop_left]
      simp [List.isPrefixOf]
  unfold Lib.cut
  rw [hi, if_pos (by omega)]
  simp
theorem ext_toList (s : ByteArray) (i j : Nat) : (s.extract i j).data.toList = (s.data.toList.drop i).take (j - i) := by
  rw [ByteArray.data_extract, Array.toList_extract]
theorem ext_size (s : ByteArray) (i j : Nat) (h : j ≤ s.size) : (s.extract i j).size = j - i := by
  rw [bsz, ext_toList, List.length_take, List.length_drop, ← bsz]
  omega
theorem wordsN_sum (s : ByteArray) : ∀ i, i ≤ s.size + 1 → ((wordsN s i).1.map fun w => w.size + 1).sum = (wordsN s i).2
  | 0, _ => rfl
  | i + 1, hi => by
    have h1 := wordsN_sum s i (by omega)
    have h2 := wordsN_le s i
    simp only [wordsN]
    split
    · simp only [List.map_append, List.map_cons, List.map_nil, List.sum_append, List.sum_cons, List.sum_nil, h1]
      rw [ext_size _ _ _ (by omega)]
      omega
    · exact h1
theorem wordsN_pre (s : ByteArray) (i : Nat) : ∀ j, ∃ r, (wordsN s (i + j)).1 = (wordsN s i).1 ++ r
  | 0 => ⟨[], by simp⟩
  | j + 1 => by
    obtain ⟨r, hr⟩ := wordsN_pre s i j
    rw [← Nat.add_assoc]
    simp only [wordsN]
    split
    · exact ⟨r ++ [_], by rw [hr, List.append_assoc]⟩
    · exact ⟨r, hr⟩
theorem wordsN_skip (s : ByteArray) (i : Nat) : ∀ j, i + j ≤ s.size → (∀ t, i ≤ t → t < i + j → (s.data.toList.getD t 0) ≠ 32) → wordsN s (i + j) = wordsN s i
  | 0, _, _ => rfl
  | j + 1, hi, h => by
    have h1 := wordsN_skip s i j (by omega) fun t h1 h2 => h t h1 (by omega)
    rw [← Nat.add_assoc]
    simp only [wordsN]
    rw [if_neg, h1]
    rintro (h2 | h2)
    · omega
    · refine h (i + j) (by omega) (by omega) (UInt8.toNat_inj.1 ?_)
      have e : (32 : UInt8).toNat = 32 := rfl
      omega
theorem wordsN_hit (s : ByteArray) (i : Nat) (h : s.data.toList.getD i 0 = 32) : wordsN s (i + 1) = ((wordsN s i).1 ++ [s.extract (wordsN s i).2 i], i + 1) := by
  simp only [wordsN]
  rw [if_pos (.inr (by rw [h]; rfl))]
theorem wordsB_last (s : ByteArray) : wordsB s = (wordsN s s.size).1 ++ [s.extract (wordsN s s.size).2 s.size] := by
  unfold wordsB
  simp only [wordsN]
  rw [if_pos (Or.inl trivial)]
/-- a text of two words without a blank, and a rest -/
theorem wordsB_at (s A B C : ByteArray) (hA : ∀ c ∈ A.data.toList, c ≠ 32) (hB : ∀ c ∈ B.data.toList, c ≠ 32) (hs : s.data.toList = A.data.toList ++ 32 :: (B.data.toList ++ 32 :: C.data.toList)) : ∃ w r, wordsB s = A :: B :: w :: r := by
  have hsz : s.size = A.size + 1 + B.size + 1 + C.size := by
    rw [bsz s, hs]
    simp only [List.length_append, List.length_cons, ← bsz]
    omega
  have g1 : ∀ t, t < A.size → s.data.toList.getD t 0 ≠ 32 := fun t ht => by
    rw [hs]
    have : t < A.data.toList.length := by rw [← bsz]; exact ht
    simp only [List.getD, List.getElem?_append_left this, List.getElem?_eq_getElem this, Option.getD_some]
    exact hA _ (List.getElem_mem this)
  have g2 : s.data.toList.getD A.size 0 = 32 := by
    rw [hs]
    simp only [List.getD]
    rw [List.getElem?_append_right (by rw [← bsz]; exact Nat.le_refl _), ← bsz, Nat.sub_self]
    rfl
  have g3 : ∀ t, A.size + 1 ≤ t → t < A.size + 1 + B.size → s.data.toList.getD t 0 ≠ 32 := fun t h1 h2 => by
    rw [hs]
    obtain ⟨q, rfl⟩ := Nat.exists_eq_add_of_le h1
    have hq : q < B.data.toList.length := by rw [← bsz]; omega
    simp only [List.getD]
    rw [List.getElem?_append_right (by rw [← bsz]; omega), ← bsz, show A.size + 1 + q - A.size = q + 1 by omega, List.getElem?_cons_succ, List.getElem?_append_left hq, List.getElem?_eq_getElem hq]
    exact hB _ (List.getElem_mem hq)
  have g4 : s.data.toList.getD (A.size + 1 + B.size) 0 = 32 := by
    rw [hs]
    simp only [List.getD]
    rw [List.getElem?_append_right (by rw [← bsz]; omega), ← bsz, show A.size + 1 + B.size - A.size = B.size + 1 by omega, List.getElem?_cons_succ, List.getElem?_append_right (by rw [← bsz]; exact Nat.le_refl _), ← bsz, Nat.sub_self]
    rfl
  have e1 : wordsN s A.size = ([], 0) := by
    have := wordsN_skip s 0 A.size (by omega) fun t _ h => g1 t (by omega)
    rwa [Nat.zero_add] at this
  have e2 := wordsN_hit s A.size g2
  rw [e1] at e2
  have x1 : s.extract 0 A.size = A := by
    apply bext
    rw [ext_toList, hs, List.drop_zero, Nat.sub_zero, bsz, List.take_left]
  simp only [List.nil_append, x1] at e2
  have e3 := wordsN_skip s (A.size + 1) B.size (by omega) fun t h1 h2 => g3 t h1 h2
  rw [e2] at e3
  have e4 := wordsN_hit s (A.size + 1 + B.size) g4
  rw [e3] at e4
  have x2 : s.extract (A.size + 1) (A.size + 1 + B.size) = B := by
    apply bext
    rw [ext_toList, hs, show A.size + 1 + B.size - (A.size + 1) = B.size by omega, List.append_cons, List.drop_left' (by rw [List.length_append, ← bsz]; rfl), List.take_left' (by rw [← bsz])]
  simp only [x2, List.cons_append, List.nil_append] at e4
  obtain ⟨r, hr⟩ := wordsN_pre s (A.size + 1 + B.size + 1) (s.size - (A.size + 1 + B.size + 1))
  rw [show A.size + 1 + B.size + 1 + (s.size - (A.size + 1 + B.size + 1)) = s.size by omega, e4] at hr
  rw [wordsB_last, hr]
  cases r with
  | nil => exact ⟨_, _, rfl⟩
  | cons a r => exact ⟨_, _, rfl⟩
/-- a text that is a slot -/
structure IsSlot (s : ByteArray) (n : Int) (t : ByteArray) : Prop where
  rng : 1 ≤ n ∧ n ≤ 1000000
  sz : t.size ≤ 300
  eq : s = slotB n t
theorem itoaB_toListI {n : Int} (h : 0 ≤ n) : (itoaB n).data.toList = Lib.decDigits n.toNat := by
  obtain ⟨k, rfl⟩ := Int.eq_ofNat_of_zero_le h
  exact itoaB_toList k
theorem no32_itoaB {n : Int} (h : 0 ≤ n) : ∀ c ∈ (itoaB n).data.toList, c ≠ 32 := by
  rw [itoaB_toListI h]
  exact dec_no32 _
theorem IsSlot.toList {s : ByteArray} {n : Int} {t : ByteArray} (h : IsSlot s n t) : s.data.toList = (itoaB n).data.toList ++ 32 :: ((itoaB (VS.dig t)).data.toList ++ 32 :: t.data.toList) := by
  rw [h.eq]
  unfold slotB
  simp only [ByteArray.data_append, Array.toList_append, List.append_assoc]
  rfl
theorem IsSlot.cutA {s : ByteArray} {n : Int} {t : ByteArray} (h : IsSlot s n t) : cut1 s ⟨#[32]⟩ = itoaB n ∧ (cut2 s ⟨#[32]⟩).data.toList = (itoaB (VS.dig t)).data.toList ++ 32 :: t.data.toList ∧ cut3 s ⟨#[32]⟩ = true := by
  have h1 := cut_at (itoaB n).data.toList ((itoaB (VS.dig t)).data.toList ++ 32 :: t.data.toList) (no32_itoaB (by have := h.rng; omega))
  rw [← h.toList] at h1
  have e : (⟨#[32]⟩ : ByteArray).data.toList = [32] := rfl
  unfold cut1 cut2 cut3
  rw [e, h1]
  exact ⟨rfl, rfl, rfl⟩
theorem IsSlot.cutB {s : ByteArray} {n : Int} {t : ByteArray} (h : IsSlot s n t) : cut2 (cut2 s ⟨#[32]⟩) ⟨#[32]⟩ = t ∧ cut3 (cut2 s ⟨#[32]⟩) ⟨#[32]⟩ = true := by
  have h1 := cut_at (itoaB (VS.dig t)).data.toList t.data.toList (no32_itoaB (dig_rng t).1)
  have h2 := h.cutA.2.1
  have e : (⟨#[32]⟩ : ByteArray).data.toList = [32] := rfl
  constructor
  · apply bext
    show (Lib.cut (cut2 s ⟨#[32]⟩).data.toList (⟨#[32]⟩ : ByteArray).data.toList).2.1.toArray.toList = _
    rw [h2, e, h1]
  · show (Lib.cut (cut2 s ⟨#[32]⟩).data.toList (⟨#[32]⟩ : ByteArray).data.toList).2.2 = _
    rw [h2, e, h1]
theorem itoaB_inj {n m : Int} (h1 : 0 ≤ n ∧ n < 10000000000) (h2 : 0 ≤ m ∧ m < 10000000000) (h : itoaB n = itoaB m) : n = m := by
  obtain ⟨k, rfl⟩ := Int.eq_ofNat_of_zero_le h1.1
  obtain ⟨j, rfl⟩ := Int.eq_ofNat_of_zero_le h2.1
  have e1 := parse_itoaB (k := k) (by omega)
  have e2 := parse_itoaB (k := j) (by omega)
  rw [h, e2] at e1
  cases e1
  rfl
theorem IsSlot.inj {s : ByteArray} {n m : Int} {t u : ByteArray} (h : IsSlot s n t) (k : IsSlot s m u) : n = m ∧ t = u := by
  refine ⟨itoaB_inj (by have := h.rng; omega) (by have := k.rng; omega) (h.cutA.1.symm.trans k.cutA.1), h.cutB.1.symm.trans k.cutB.1⟩
theorem IsSlot.words {s : ByteArray} {n : Int} {t : ByteArray} (h : IsSlot s n t) : ∃ w r, wordsB s = itoaB n :: itoaB (VS.dig t) :: w :: r ∧ s.extract ((itoaB n).size + (itoaB (VS.dig t)).size + 2) s.size = t := by
  obtain ⟨w, r, hw⟩ := wordsB_at s (itoaB n) (itoaB (VS.dig t)) t (no32_itoaB (by have := h.rng; omega)) (no32_itoaB (dig_rng t).1) h.toList
  refine ⟨w, r, hw, bext ?_⟩
  have e : s.data.toList = ((itoaB n).data.toList ++ 32 :: ((itoaB (VS.dig t)).data.toList ++ [32])) ++ t.data.toList := by rw [h.toList]; simp
  rw [ext_toList, e, List.drop_left' (by simp only [List.length_append, List.length_cons, List.length_nil, ← bsz]; omega), List.take_of_length_le]
  rw [bsz s, e]
  simp only [List.length_append, List.length_cons, List.length_nil, ← bsz]
  omega
theorem IsSlot.slotS {s : ByteArray} {n : Int} {t : ByteArray} (h : IsSlot s n t) : slotS n t = s := by
  unfold VS.slotS
  rw [if_pos ⟨h.rng, h.sz⟩, h.eq]
theorem IsSlot.of {s : ByteArray} {n : Int} {t : ByteArray} (h : VS.slotS n t = s) (hs : s.size ≠ 0) : IsSlot s n t := by
  unfold VS.slotS at h
  split at h
  · rename_i h1
    exact ⟨h1.1, h1.2, h.symm⟩
  · subst h
    exact absurd rfl hs
/-- what a slot is read as -/
noncomputable def readS (s : ByteArray) : Int × ByteArray × Bool :=
  open Classical in if h : ∃ p : Int × ByteArray, IsSlot s p.1 p.2 then (h.choose.1, h.choose.2, true) else (0, ⟨#[]⟩, false)
theorem readS_is {s : ByteArray} {n : Int} {t : ByteArray} (h : IsSlot s n t) : readS s = (n, t, true) := by
  have hx : ∃ p : Int × ByteArray, IsSlot s p.1 p.2 := ⟨(n, t), h⟩
  unfold readS
  rw [dif_pos hx]
  have := hx.choose_spec.inj h
  rw [this.1, this.2]
theorem readS_no {s : ByteArray} (h : ∀ n t, ¬ IsSlot s n t) : readS s = (0, ⟨#[]⟩, false) := by
  unfold readS
  rw [dif_neg fun ⟨p, hp⟩ => h _ _ hp]
theorem readS_cases (s : ByteArray) : (∃ n t, IsSlot s n t) ∨ ∀ n t, ¬ IsSlot s n t := by
  by_cases h : ∃ n t, IsSlot s n t
  · exact .inl h
  · exact .inr fun n t hh => h ⟨n, t, hh⟩
end Go.VS

set_option linter.unusedSimpArgs false
set_option linter.unusedVariables false
open Go.Proofs
set_option maxRecDepth 20000
namespace Go.VS
theorem f37_at : gz.P.funcs[37]? = some Tryz.f37 := by
  have h : Tryz.prog.funcs[37]? = some Tryz.f37 := by kernel_rfl
  exact h
theorem f32_at : gz.P.funcs[32]? = some Tryz.f32 := by
  have h : Tryz.prog.funcs[32]? = some Tryz.f32 := by kernel_rfl
  exact h
theorem cut3_pos {s : ByteArray} (h : cut3 s ⟨#[32]⟩ = true) : s.size ≠ 0 := fun hz => by
  have e : s.data.toList = [] := List.eq_nil_of_length_eq_zero (by rw [← bsz]; exact hz)
  unfold cut3 at h
  rw [e] at h
  revert h
  decide
theorem ok37 (s : ByteArray) (hs : s.size ≤ 4000000) : VCalls gz 37 [.lit (.string s)] none (fun y _ => y = .tup [.lit (.int .i64 (readS s).1), .lit (.string (readS s).2.1), .lit (.bool (readS s).2.2)]) := by
  refine VCalls.go (nt := 40) (keep := [0, 2, 3, 4, 5, 6, 8, 13, 37]) (muts := []) (mvs := []) [(5, .tree true (.take 0 (.take 1 (.take 2 (.take 3 (.take 4 (.take 5 (.take 6 (.take 7 (.take 8 (.take 9 (.take 10 (.all (.cons 11 (.all (.cons 12 .done .nil)) .nil))))))))))))))] f37_at rfl (by kernel_rfl) rfl (by kernel_rfl) rfl (fun i h => by cases h) rfl ?_
  intro hok
  simp only [go_sem, Nat.reduceAdd, Nat.reduceSub, Nat.reduceMul, Nat.reduceEqDiff, Nat.reduceBEq, Nat.reduceBNe, Nat.reduceLT, Nat.reduceLeDiff, Int.reduceNeg, Int.reduceAdd, Int.reduceSub, Int.reduceMul, Int.reduceEq, Int.reduceLT, Int.reduceLE, Int.reduceToNat, reduceIte, reduceCtorEq] at hok
  simp only [Tryz.f37, Func.code, Option.getD_some]
  simp only [go_sem, Nat.reduceAdd, Nat.reduceSub, Nat.reduceMul, Nat.reduceEqDiff, Nat.reduceBEq, Nat.reduceBNe, Nat.reduceLT, Nat.reduceLeDiff, Int.reduceNeg, Int.reduceAdd, Int.reduceSub, Int.reduceMul, Int.reduceEq, Int.reduceLT, Int.reduceLE, Int.reduceToNat, reduceIte, reduceCtorEq]
  refine call_lend ?_
  simp only [go_sem, Nat.reduceAdd, Nat.reduceSub, Nat.reduceMul, Nat.reduceEqDiff, Nat.reduceBEq, Nat.reduceBNe, Nat.reduceLT, Nat.reduceLeDiff, Int.reduceNeg, Int.reduceAdd, Int.reduceSub, Int.reduceMul, Int.reduceEq, Int.reduceLT, Int.reduceLE, Int.reduceToNat, reduceIte, reduceCtorEq]
  refine callN.eq (ok142 s hs) (by simp only [go_sem, Nat.reduceAdd, Nat.reduceSub, Nat.reduceMul, Nat.reduceEqDiff, Nat.reduceBEq, Nat.reduceBNe, Nat.reduceLT, Nat.reduceLeDiff, Int.reduceNeg, Int.reduceAdd, Int.reduceSub, Int.reduceMul, Int.reduceEq, Int.reduceLT, Int.reduceLE, Int.reduceToNat, reduceIte, reduceCtorEq]) ?_
  simp only [go_sem, Nat.reduceAdd, Nat.reduceSub, Nat.reduceMul, Nat.reduceEqDiff, Nat.reduceBEq, Nat.reduceBNe, Nat.reduceLT, Nat.reduceLeDiff, Int.reduceNeg, Int.reduceAdd, Int.reduceSub, Int.reduceMul, Int.reduceEq, Int.reduceLT, Int.reduceLE, Int.reduceToNat, reduceIte, reduceCtorEq]
  intro _
  first | refine branch_ndec (fun h1 => ?_) (fun h1 => ?_) | refine branch_dec (fun h1 => ?_) (fun h1 => ?_) | refine branch_nbool (fun h1 => ?_) (fun h1 => ?_) | refine branch_split (fun h1 => ?_) (fun h1 => ?_)
  · simp only [go_sem, Nat.reduceAdd, Nat.reduceSub, Nat.reduceMul, Nat.reduceEqDiff, Nat.reduceBEq, Nat.reduceBNe, Nat.reduceLT, Nat.reduceLeDiff, Int.reduceNeg, Int.reduceAdd, Int.reduceSub, Int.reduceMul, Int.reduceEq, Int.reduceLT, Int.reduceLE, Int.reduceToNat, reduceIte, reduceCtorEq]
    have hno : ∀ n t, ¬ IsSlot s n t := fun n t h => by
      obtain ⟨w, r, hw, _⟩ := h.words
      rw [hw] at h1
      simp at h1
      omega
    rw [readS_no hno]
    exact ⟨rfl, rfl, rfl⟩
  · obtain ⟨w0, w1, w2, r, hw⟩ : ∃ w0 w1 w2 r, wordsB s = w0 :: w1 :: w2 :: r := by
      match hq : wordsB s with
      | [] => rw [hq] at h1; simp at h1
      | [_] => rw [hq] at h1; simp at h1
      | [_, _] => rw [hq] at h1; simp at h1
      | a :: b :: c :: r => exact ⟨a, b, c, r, rfl⟩
    have hsum := wordsN_sum s (s.size + 1) (Nat.le_refl _)
    have hle := wordsN_le s (s.size + 1)
    have hws : (wordsN s (s.size + 1)).1 = w0 :: w1 :: w2 :: r := hw
    rw [hws] at hsum
    simp only [List.map_cons, List.sum_cons] at hsum
    have hl : s.size + 1 = (wordsN s (s.size + 1)).2 ∨ True := .inr trivial
    have hh : w0.size + w1.size + 2 ≤ s.size := by omega
    have hw1 : IntKind.i64.wrap ((w0.size : Int) + (w1.size : Int)) = (w0.size : Int) + (w1.size : Int) := wrap64 (by omega) (by omega)
    have hw2 : IntKind.i64.wrap ((w0.size : Int) + (w1.size : Int) + 2) = (w0.size : Int) + (w1.size : Int) + 2 := wrap64 (by omega) (by omega)
    have hl0 : (0 : Int) < ((r.length + 1 + 1 + 1 : Nat) : Int) := by omega
    have hl1 : (1 : Int) < ((r.length + 1 + 1 + 1 : Nat) : Int) := by omega
    have hl2 : 0 < r.length + 1 + 1 + 1 := by omega
    have hl3 : 1 < r.length + 1 + 1 + 1 := by omega
    simp only [go_sem, Nat.reduceAdd, Nat.reduceSub, Nat.reduceMul, Nat.reduceEqDiff, Nat.reduceBEq, Nat.reduceBNe, Nat.reduceLT, Nat.reduceLeDiff, Int.reduceNeg, Int.reduceAdd, Int.reduceSub, Int.reduceMul, Int.reduceEq, Int.reduceLT, Int.reduceLE, Int.reduceToNat, reduceIte, reduceCtorEq, hw, hl0, hl1, hl2, hl3]
    refine call_lend ?_
    simp only [go_sem, Nat.reduceAdd, Nat.reduceSub, Nat.reduceMul, Nat.reduceEqDiff, Nat.reduceBEq, Nat.reduceBNe, Nat.reduceLT, Nat.reduceLeDiff, Int.reduceNeg, Int.reduceAdd, Int.reduceSub, Int.reduceMul, Int.reduceEq, Int.reduceLT, Int.reduceLE, Int.reduceToNat, reduceIte, reduceCtorEq]
    refine callN.use (ok143 w0 (readS s).1.toNat) ?_
    rintro _ _ ⟨n, b, rfl, hn⟩
    refine ⟨by simp only [go_sem, Nat.reduceAdd, Nat.reduceSub, Nat.reduceMul, Nat.reduceEqDiff, Nat.reduceBEq, Nat.reduceBNe, Nat.reduceLT, Nat.reduceLeDiff, Int.reduceNeg, Int.reduceAdd, Int.reduceSub, Int.reduceMul, Int.reduceEq, Int.reduceLT, Int.reduceLE, Int.reduceToNat, reduceIte, reduceCtorEq], ?_⟩
    simp only [go_sem, Nat.reduceAdd, Nat.reduceSub, Nat.reduceMul, Nat.reduceEqDiff, Nat.reduceBEq, Nat.reduceBNe, Nat.reduceLT, Nat.reduceLeDiff, Int.reduceNeg, Int.reduceAdd, Int.reduceSub, Int.reduceMul, Int.reduceEq, Int.reduceLT, Int.reduceLE, Int.reduceToNat, reduceIte, reduceCtorEq]
    rw [hw1, hw2]
    refine ⟨by omega, by omega, fun _ => ⟨by omega, by omega, fun _ => ⟨by omega, by omega, by omega, ?_⟩⟩⟩
    have e : ((w0.size : Int) + (w1.size : Int) + 2).toNat = w0.size + w1.size + 2 := by omega
    rw [e]
    refine call_lend ?_
    simp only [go_sem, Nat.reduceAdd, Nat.reduceSub, Nat.reduceMul, Nat.reduceEqDiff, Nat.reduceBEq, Nat.reduceBNe, Nat.reduceLT, Nat.reduceLeDiff, Int.reduceNeg, Int.reduceAdd, Int.reduceSub, Int.reduceMul, Int.reduceEq, Int.reduceLT, Int.reduceLE, Int.reduceToNat, reduceIte, reduceCtorEq]
    refine callN.eq (ok35 n (s.extract (w0.size + w1.size + 2) s.size)) (by simp only [go_sem, Nat.reduceAdd, Nat.reduceSub, Nat.reduceMul, Nat.reduceEqDiff, Nat.reduceBEq, Nat.reduceBNe, Nat.reduceLT, Nat.reduceLeDiff, Int.reduceNeg, Int.reduceAdd, Int.reduceSub, Int.reduceMul, Int.reduceEq, Int.reduceLT, Int.reduceLE, Int.reduceToNat, reduceIte, reduceCtorEq]) ?_
    simp only [go_sem, Nat.reduceAdd, Nat.reduceSub, Nat.reduceMul, Nat.reduceEqDiff, Nat.reduceBEq, Nat.reduceBNe, Nat.reduceLT, Nat.reduceLeDiff, Int.reduceNeg, Int.reduceAdd, Int.reduceSub, Int.reduceMul, Int.reduceEq, Int.reduceLT, Int.reduceLE, Int.reduceToNat, reduceIte, reduceCtorEq]
    first | refine branch_ndec (fun h9 => ?_) (fun h9 => ?_) | refine branch_dec (fun h9 => ?_) (fun h9 => ?_) | refine branch_nbool (fun h9 => ?_) (fun h9 => ?_) | refine branch_split (fun h9 => ?_) (fun h9 => ?_)
    · simp only [go_sem, Nat.reduceAdd, Nat.reduceSub, Nat.reduceMul, Nat.reduceEqDiff, Nat.reduceBEq, Nat.reduceBNe, Nat.reduceLT, Nat.reduceLeDiff, Int.reduceNeg, Int.reduceAdd, Int.reduceSub, Int.reduceMul, Int.reduceEq, Int.reduceLT, Int.reduceLE, Int.reduceToNat, reduceIte, reduceCtorEq]
      have hr := IsSlot.of h9 (by omega)
      rw [readS_is hr]
      exact ⟨rfl, rfl, rfl⟩
    · simp only [go_sem, Nat.reduceAdd, Nat.reduceSub, Nat.reduceMul, Nat.reduceEqDiff, Nat.reduceBEq, Nat.reduceBNe, Nat.reduceLT, Nat.reduceLeDiff, Int.reduceNeg, Int.reduceAdd, Int.reduceSub, Int.reduceMul, Int.reduceEq, Int.reduceLT, Int.reduceLE, Int.reduceToNat, reduceIte, reduceCtorEq]
      have hno : ∀ m u, ¬ IsSlot s m u := fun m u hr => by
        obtain ⟨w, q, hq, hx⟩ := hr.words
        rw [hw] at hq
        simp only [List.cons.injEq] at hq
        rw [readS_is hr] at hn
        have hm := hr.rng
        have hm2 : ((m.toNat : Nat) : Int) = m := by omega
        have hk := itoaB_num (k := m.toNat) (by omega) (by omega)
        rw [hm2, ← hq.1] at hk
        have h5 := (hn hk).1
        simp only [hm2] at h5
        rw [h5, hq.1, hq.2.1, hx] at h9
        exact h9 hr.slotS
      rw [readS_no hno]
      exact ⟨rfl, rfl, rfl⟩
theorem ok32 (s : ByteArray) (hs : s.size ≤ 4000000) : VCalls gz 32 [.lit (.string s)] none (fun y _ => y = .tup [.lit (.int .i64 (readS s).1), .lit (.string (readS s).2.1), .lit (.bool (readS s).2.2)]) := by
  refine VCalls.go (nt := 49) (keep := [0, 2, 3, 4, 5, 6, 7, 9, 10, 11, 12, 46]) (muts := []) (mvs := []) [] f32_at rfl (by kernel_rfl) rfl (by kernel_rfl) rfl (fun i h => by cases h) rfl ?_
  intro hok
  simp only [go_sem, Nat.reduceAdd, Nat.reduceSub, Nat.reduceMul, Nat.reduceEqDiff, Nat.reduceBEq, Nat.reduceBNe, Nat.reduceLT, Nat.reduceLeDiff, Int.reduceNeg, Int.reduceAdd, Int.reduceSub, Int.reduceMul, Int.reduceEq, Int.reduceLT, Int.reduceLE, Int.reduceToNat, reduceIte, reduceCtorEq] at hok
  simp only [Tryz.f32, Func.code, Option.getD_some]
  simp only [go_sem, Nat.reduceAdd, Nat.reduceSub, Nat.reduceMul, Nat.reduceEqDiff, Nat.reduceBEq, Nat.reduceBNe, Nat.reduceLT, Nat.reduceLeDiff, Int.reduceNeg, Int.reduceAdd, Int.reduceSub, Int.reduceMul, Int.reduceEq, Int.reduceLT, Int.reduceLE, Int.reduceToNat, reduceIte, reduceCtorEq]
  refine call_lend ?_
  simp only [go_sem, Nat.reduceAdd, Nat.reduceSub, Nat.reduceMul, Nat.reduceEqDiff, Nat.reduceBEq, Nat.reduceBNe, Nat.reduceLT, Nat.reduceLeDiff, Int.reduceNeg, Int.reduceAdd, Int.reduceSub, Int.reduceMul, Int.reduceEq, Int.reduceLT, Int.reduceLE, Int.reduceToNat, reduceIte, reduceCtorEq]
  refine callN.eq (ok135 s ⟨#[32]⟩ (by omega)) (by simp only [go_sem, Nat.reduceAdd, Nat.reduceSub, Nat.reduceMul, Nat.reduceEqDiff, Nat.reduceBEq, Nat.reduceBNe, Nat.reduceLT, Nat.reduceLeDiff, Int.reduceNeg, Int.reduceAdd, Int.reduceSub, Int.reduceMul, Int.reduceEq, Int.reduceLT, Int.reduceLE, Int.reduceToNat, reduceIte, reduceCtorEq]) ?_
  simp only [go_sem, Nat.reduceAdd, Nat.reduceSub, Nat.reduceMul, Nat.reduceEqDiff, Nat.reduceBEq, Nat.reduceBNe, Nat.reduceLT, Nat.reduceLeDiff, Int.reduceNeg, Int.reduceAdd, Int.reduceSub, Int.reduceMul, Int.reduceEq, Int.reduceLT, Int.reduceLE, Int.reduceToNat, reduceIte, reduceCtorEq]
  have c1 := cut1_size s ⟨#[32]⟩
  have c2 := cut2_size s ⟨#[32]⟩
  refine call_lend ?_
  simp only [go_sem, Nat.reduceAdd, Nat.reduceSub, Nat.reduceMul, Nat.reduceEqDiff, Nat.reduceBEq, Nat.reduceBNe, Nat.reduceLT, Nat.reduceLeDiff, Int.reduceNeg, Int.reduceAdd, Int.reduceSub, Int.reduceMul, Int.reduceEq, Int.reduceLT, Int.reduceLE, Int.reduceToNat, reduceIte, reduceCtorEq]
  refine callN.eq (ok135 (cut2 s ⟨#[32]⟩) ⟨#[32]⟩ (by omega)) (by simp only [go_sem, Nat.reduceAdd, Nat.reduceSub, Nat.reduceMul, Nat.reduceEqDiff, Nat.reduceBEq, Nat.reduceBNe, Nat.reduceLT, Nat.reduceLeDiff, Int.reduceNeg, Int.reduceAdd, Int.reduceSub, Int.reduceMul, Int.reduceEq, Int.reduceLT, Int.reduceLE, Int.reduceToNat, reduceIte, reduceCtorEq]) ?_
  simp only [go_sem, Nat.reduceAdd, Nat.reduceSub, Nat.reduceMul, Nat.reduceEqDiff, Nat.reduceBEq, Nat.reduceBNe, Nat.reduceLT, Nat.reduceLeDiff, Int.reduceNeg, Int.reduceAdd, Int.reduceSub, Int.reduceMul, Int.reduceEq, Int.reduceLT, Int.reduceLE, Int.reduceToNat, reduceIte, reduceCtorEq]
  rcases readS_cases s with ⟨m, u, hr⟩ | hno
  · obtain ⟨a1, a2, a3⟩ := hr.cutA
    obtain ⟨b1, b2⟩ := hr.cutB
    have hm := hr.rng
    rw [a1, a3, b1, b2, readS_is hr]
    refine call_lend ?_
    simp only [go_sem, Nat.reduceAdd, Nat.reduceSub, Nat.reduceMul, Nat.reduceEqDiff, Nat.reduceBEq, Nat.reduceBNe, Nat.reduceLT, Nat.reduceLeDiff, Int.reduceNeg, Int.reduceAdd, Int.reduceSub, Int.reduceMul, Int.reduceEq, Int.reduceLT, Int.reduceLE, Int.reduceToNat, reduceIte, reduceCtorEq]
    refine callN.use (ok136 (itoaB m) (by have := itoaB_size m (by omega); omega) m.toNat (by omega) (by omega)) ?_
    rintro _ _ ⟨n, b, rfl, hn⟩
    refine ⟨by simp only [go_sem, Nat.reduceAdd, Nat.reduceSub, Nat.reduceMul, Nat.reduceEqDiff, Nat.reduceBEq, Nat.reduceBNe, Nat.reduceLT, Nat.reduceLeDiff, Int.reduceNeg, Int.reduceAdd, Int.reduceSub, Int.reduceMul, Int.reduceEq, Int.reduceLT, Int.reduceLE, Int.reduceToNat, reduceIte, reduceCtorEq], ?_⟩
    simp only [go_sem, Nat.reduceAdd, Nat.reduceSub, Nat.reduceMul, Nat.reduceEqDiff, Nat.reduceBEq, Nat.reduceBNe, Nat.reduceLT, Nat.reduceLeDiff, Int.reduceNeg, Int.reduceAdd, Int.reduceSub, Int.reduceMul, Int.reduceEq, Int.reduceLT, Int.reduceLE, Int.reduceToNat, reduceIte, reduceCtorEq]
    have hm2 : ((m.toNat : Nat) : Int) = m := by omega
    rw [hm2] at hn
    obtain ⟨rfl, rfl⟩ := hn rfl
    simp only [go_sem, Nat.reduceAdd, Nat.reduceSub, Nat.reduceMul, Nat.reduceEqDiff, Nat.reduceBEq, Nat.reduceBNe, Nat.reduceLT, Nat.reduceLeDiff, Int.reduceNeg, Int.reduceAdd, Int.reduceSub, Int.reduceMul, Int.reduceEq, Int.reduceLT, Int.reduceLE, Int.reduceToNat, reduceIte, reduceCtorEq]
    refine call_lend ?_
    simp only [go_sem, Nat.reduceAdd, Nat.reduceSub, Nat.reduceMul, Nat.reduceEqDiff, Nat.reduceBEq, Nat.reduceBNe, Nat.reduceLT, Nat.reduceLeDiff, Int.reduceNeg, Int.reduceAdd, Int.reduceSub, Int.reduceMul, Int.reduceEq, Int.reduceLT, Int.reduceLE, Int.reduceToNat, reduceIte, reduceCtorEq]
    refine callN.eq (ok30 n u) (by simp only [go_sem, Nat.reduceAdd, Nat.reduceSub, Nat.reduceMul, Nat.reduceEqDiff, Nat.reduceBEq, Nat.reduceBNe, Nat.reduceLT, Nat.reduceLeDiff, Int.reduceNeg, Int.reduceAdd, Int.reduceSub, Int.reduceMul, Int.reduceEq, Int.reduceLT, Int.reduceLE, Int.reduceToNat, reduceIte, reduceCtorEq]) ?_
    simp only [go_sem, Nat.reduceAdd, Nat.reduceSub, Nat.reduceMul, Nat.reduceEqDiff, Nat.reduceBEq, Nat.reduceBNe, Nat.reduceLT, Nat.reduceLeDiff, Int.reduceNeg, Int.reduceAdd, Int.reduceSub, Int.reduceMul, Int.reduceEq, Int.reduceLT, Int.reduceLE, Int.reduceToNat, reduceIte, reduceCtorEq]
    have hq := hr.slotS
    simp only [go_sem, Nat.reduceAdd, Nat.reduceSub, Nat.reduceMul, Nat.reduceEqDiff, Nat.reduceBEq, Nat.reduceBNe, Nat.reduceLT, Nat.reduceLeDiff, Int.reduceNeg, Int.reduceAdd, Int.reduceSub, Int.reduceMul, Int.reduceEq, Int.reduceLT, Int.reduceLE, Int.reduceToNat, reduceIte, reduceCtorEq, hq]
  · rw [readS_no hno]
    refine call_lend ?_
    simp only [go_sem, Nat.reduceAdd, Nat.reduceSub, Nat.reduceMul, Nat.reduceEqDiff, Nat.reduceBEq, Nat.reduceBNe, Nat.reduceLT, Nat.reduceLeDiff, Int.reduceNeg, Int.reduceAdd, Int.reduceSub, Int.reduceMul, Int.reduceEq, Int.reduceLT, Int.reduceLE, Int.reduceToNat, reduceIte, reduceCtorEq]
    refine callN.use (ok136 (cut1 s ⟨#[32]⟩) (by omega) 1 (by omega) (by omega)) ?_
    rintro _ _ ⟨n, b, rfl, hn⟩
    refine ⟨by simp only [go_sem, Nat.reduceAdd, Nat.reduceSub, Nat.reduceMul, Nat.reduceEqDiff, Nat.reduceBEq, Nat.reduceBNe, Nat.reduceLT, Nat.reduceLeDiff, Int.reduceNeg, Int.reduceAdd, Int.reduceSub, Int.reduceMul, Int.reduceEq, Int.reduceLT, Int.reduceLE, Int.reduceToNat, reduceIte, reduceCtorEq], ?_⟩
    simp only [go_sem, Nat.reduceAdd, Nat.reduceSub, Nat.reduceMul, Nat.reduceEqDiff, Nat.reduceBEq, Nat.reduceBNe, Nat.reduceLT, Nat.reduceLeDiff, Int.reduceNeg, Int.reduceAdd, Int.reduceSub, Int.reduceMul, Int.reduceEq, Int.reduceLT, Int.reduceLE, Int.reduceToNat, reduceIte, reduceCtorEq]
    cases h3 : cut3 s ⟨#[32]⟩
    · simp only [go_sem, Nat.reduceAdd, Nat.reduceSub, Nat.reduceMul, Nat.reduceEqDiff, Nat.reduceBEq, Nat.reduceBNe, Nat.reduceLT, Nat.reduceLeDiff, Int.reduceNeg, Int.reduceAdd, Int.reduceSub, Int.reduceMul, Int.reduceEq, Int.reduceLT, Int.reduceLE, Int.reduceToNat, reduceIte, reduceCtorEq]
    · have hp := cut3_pos h3
      cases h4 : cut3 (cut2 s ⟨#[32]⟩) ⟨#[32]⟩
      · simp only [go_sem, Nat.reduceAdd, Nat.reduceSub, Nat.reduceMul, Nat.reduceEqDiff, Nat.reduceBEq, Nat.reduceBNe, Nat.reduceLT, Nat.reduceLeDiff, Int.reduceNeg, Int.reduceAdd, Int.reduceSub, Int.reduceMul, Int.reduceEq, Int.reduceLT, Int.reduceLE, Int.reduceToNat, reduceIte, reduceCtorEq]
      · cases b
        · simp only [go_sem, Nat.reduceAdd, Nat.reduceSub, Nat.reduceMul, Nat.reduceEqDiff, Nat.reduceBEq, Nat.reduceBNe, Nat.reduceLT, Nat.reduceLeDiff, Int.reduceNeg, Int.reduceAdd, Int.reduceSub, Int.reduceMul, Int.reduceEq, Int.reduceLT, Int.reduceLE, Int.reduceToNat, reduceIte, reduceCtorEq]
        · simp only [go_sem, Nat.reduceAdd, Nat.reduceSub, Nat.reduceMul, Nat.reduceEqDiff, Nat.reduceBEq, Nat.reduceBNe, Nat.reduceLT, Nat.reduceLeDiff, Int.reduceNeg, Int.reduceAdd, Int.reduceSub, Int.reduceMul, Int.reduceEq, Int.reduceLT, Int.reduceLE, Int.reduceToNat, reduceIte, reduceCtorEq]
          refine call_lend ?_
          simp only [go_sem, Nat.reduceAdd, Nat.reduceSub, Nat.reduceMul, Nat.reduceEqDiff, Nat.reduceBEq, Nat.reduceBNe, Nat.reduceLT, Nat.reduceLeDiff, Int.reduceNeg, Int.reduceAdd, Int.reduceSub, Int.reduceMul, Int.reduceEq, Int.reduceLT, Int.reduceLE, Int.reduceToNat, reduceIte, reduceCtorEq]
          refine callN.eq (ok30 n (cut2 (cut2 s ⟨#[32]⟩) ⟨#[32]⟩)) (by simp only [go_sem, Nat.reduceAdd, Nat.reduceSub, Nat.reduceMul, Nat.reduceEqDiff, Nat.reduceBEq, Nat.reduceBNe, Nat.reduceLT, Nat.reduceLeDiff, Int.reduceNeg, Int.reduceAdd, Int.reduceSub, Int.reduceMul, Int.reduceEq, Int.reduceLT, Int.reduceLE, Int.reduceToNat, reduceIte, reduceCtorEq]) ?_
          simp only [go_sem, Nat.reduceAdd, Nat.reduceSub, Nat.reduceMul, Nat.reduceEqDiff, Nat.reduceBEq, Nat.reduceBNe, Nat.reduceLT, Nat.reduceLeDiff, Int.reduceNeg, Int.reduceAdd, Int.reduceSub, Int.reduceMul, Int.reduceEq, Int.reduceLT, Int.reduceLE, Int.reduceToNat, reduceIte, reduceCtorEq]
          first | refine branch_ndec (fun h9 => ?_) (fun h9 => ?_) | refine branch_dec (fun h9 => ?_) (fun h9 => ?_) | refine branch_nbool (fun h9 => ?_) (fun h9 => ?_) | refine branch_split (fun h9 => ?_) (fun h9 => ?_)
          · exact absurd (IsSlot.of h9 hp) (hno _ _)
          · simp only [go_sem, Nat.reduceAdd, Nat.reduceSub, Nat.reduceMul, Nat.reduceEqDiff, Nat.reduceBEq, Nat.reduceBNe, Nat.reduceLT, Nat.reduceLeDiff, Int.reduceNeg, Int.reduceAdd, Int.reduceSub, Int.reduceMul, Int.reduceEq, Int.reduceLT, Int.reduceLE, Int.reduceToNat, reduceIte, reduceCtorEq]
end Go.VS

set_option linter.unusedSimpArgs false
set_option linter.unusedVariables false
open Go.Proofs
set_option maxRecDepth 20000
namespace Go.VS
theorem f141_at : gz.P.funcs[141]? = some Tryz.f141 := by
  have h : Tryz.prog.funcs[141]? = some Tryz.f141 := by kernel_rfl
  exact h
theorem f131_at : gz.P.funcs[131]? = some Tryz.f131 := by
  have h : Tryz.prog.funcs[131]? = some Tryz.f131 := by kernel_rfl
  exact h
theorem Dev.like_self {d : Dev} : d.like d = true := by simp [Dev.like]
theorem Dev.lay_lies {d : Dev} {a : Int} {t : ByteArray} (h : (d.lay a t).2 = true) : (d.lay a t).1.lies a = t ∧ (d.lay a t).1.ok = true := by
  have hok : d.ok = true := by
    unfold Dev.lay at h
    split at h
    · assumption
    · cases h
  have hk := Dev.lay_ok hok a t
  refine ⟨?_, hk⟩
  unfold Dev.lies
  have hx : (d.lay a t).1 = ⟨d.secs, d.late ++ [⟨a, t⟩]⟩ ∧ d.fits a t = true := by
    unfold Dev.lay at h ⊢
    rw [if_pos hok] at h ⊢
    split at h
    · rename_i h2
      rw [if_pos h2]
      exact ⟨rfl, h2.1⟩
    · cases h
  have hf := hx.2
  simp only [Dev.fits, Bool.and_eq_true, decide_eq_true_eq] at hf
  rw [hx.1] at hk ⊢
  rw [if_pos ⟨hk, by simp only; omega⟩]
  simp only [List.length_append, List.length_cons, List.length_nil, Nat.zero_add, liesN]
  have : (d.late ++ [(⟨a, t⟩ : Patch)]).getD d.late.length default = ⟨a, t⟩ := by simp [List.getD]
  rw [this]
  simp
theorem getD_set_text {ss : List ByteArray} {k i : Nat} {v : ByteArray} (hk : k < ss.length) : (ss.set k v).getD i default = if k = i then v else ss.getD i default := by
  simp only [List.getD, List.getElem?_set]
  by_cases h : k = i
  · subst h
    simp [hk]
  · simp [h]
theorem settleN_at (k : Nat → Bool) (late : List Patch) (ss : List ByteArray) (hp : ∀ p ∈ late, 0 ≤ p.place ∧ p.place < ss.length) (i : Nat) : ∀ n, n ≤ late.length →
    (settleN k late ss n).getD i default = ss.getD i default ∨ ∃ j, j < n ∧ (late.getD j default).place = (i : Int) ∧ (late.getD j default).text = (settleN k late ss n).getD i default
  | 0, _ => .inl rfl
  | n + 1, h => by
    have hm := hp _ (getD_mem (show n < late.length by omega))
    have hl := settleN_length k late ss n
    simp only [settleN]
    by_cases hk : k n = true
    · rw [if_pos hk, getD_set_text (by omega)]
      by_cases he : (late.getD n default).place.toNat = i
      · rw [if_pos he]
        exact .inr ⟨n, by omega, by omega, rfl⟩
      · rw [if_neg he]
        rcases settleN_at k late ss hp i n (by omega) with h1 | ⟨j, h1, h2, h3⟩
        · exact .inl h1
        · exact .inr ⟨j, by omega, h2, h3⟩
    · rw [if_neg hk]
      rcases settleN_at k late ss hp i n (by omega) with h1 | ⟨j, h1, h2, h3⟩
      · exact .inl h1
      · exact .inr ⟨j, by omega, h2, h3⟩
theorem settleN_lies (late : List Patch) (ss : List ByteArray) (hp : ∀ p ∈ late, 0 ≤ p.place ∧ p.place < ss.length) (a : Int) (ha : 0 ≤ a) : ∀ n, n ≤ late.length →
    (settleN (fun _ => true) late ss n).getD a.toNat default = liesN late a (ss.getD a.toNat default) n
  | 0, _ => rfl
  | n + 1, h => by
    have hm := hp _ (getD_mem (show n < late.length by omega))
    have hl := settleN_length (fun _ => true) late ss n
    simp only [settleN, if_true, liesN]
    rw [getD_set_text (by omega)]
    by_cases he : (late.getD n default).place = a
    · rw [if_pos he, if_pos (by omega)]
    · rw [if_neg he, if_neg (by omega)]
      exact settleN_lies late ss hp a ha n (by omega)
theorem Dev.barrier_lies {d : Dev} (h : d.ok = true) (a : Int) (h1 : 0 ≤ a) (h2 : a < d.secs.length) : d.barrier.lies a = d.lies a := by
  have hb := Dev.barrier_ok h
  have hl := settleN_length (fun _ => true) d.late d.secs d.late.length
  unfold Dev.barrier at hb ⊢
  rw [if_pos h] at hb ⊢
  have e1 : (d.settled fun _ => true).lies a = liesN (d.settled fun _ => true).late a ((d.settled fun _ => true).secs.getD a.toNat default) (d.settled fun _ => true).late.length := by
    unfold Dev.lies
    exact if_pos ⟨hb, h1, by simp only [Dev.settled]; omega⟩
  have e2 : d.lies a = liesN d.late a (d.secs.getD a.toNat default) d.late.length := by
    unfold Dev.lies
    exact if_pos ⟨h, h1, h2⟩
  rw [e1, e2]
  exact settleN_lies d.late d.secs (Dev.ok_places h) a h1 _ (Nat.le_refl _)
theorem Dev.cut_barrier {d : Dev} (h : d.ok = true) (l : List Bool) : d.barrier.cut l = d.barrier := by
  have hb := Dev.barrier_ok h
  unfold Dev.cut
  rw [if_pos hb]
  unfold Dev.barrier
  rw [if_pos h]
  rfl
/-- what is found of a text among the first patches -/
def Dev.new (n : Int) : Dev × Bool := if 1 ≤ n ∧ n ≤ 16 then (⟨List.replicate n.toNat ByteArray.empty, []⟩, true) else (Dev.none, false)
theorem new_eq (n : Int) : (if 1 ≤ n ∧ n ≤ 16 then AVal.tup [(Dev.mk (List.replicate n.toNat ByteArray.empty) []).enc true, .lit (.bool true)] else .tup [Dev.none.enc true, .lit (.bool false)]) = .tup [(Dev.new n).1.enc true, .lit (.bool (Dev.new n).2)] := by
  unfold Dev.new
  split <;> rfl

theorem Dev.ok_texts {d : Dev} (h : d.ok = true) : (∀ s ∈ d.secs, s.size ≤ 400) ∧ ∀ p ∈ d.late, p.text.size ≤ 400 := by
  simp only [Dev.ok, Bool.and_eq_true, decide_eq_true_eq, Bool.not_eq_true', List.any_eq_false, decide_eq_false_iff_not, Dev.fits, Bool.not_eq_true] at h
  refine ⟨fun s hs => by have := h.1.2 s hs; omega, fun p hp => ?_⟩
  have := h.2 p hp
  simp at this
  omega
theorem Dev.lies_size {d : Dev} (h : d.ok = true) (a : Int) : (d.lies a).size ≤ 400 := by
  unfold Dev.lies
  split
  · rename_i h1
    refine liesN_size _ _ _ _ ?_ (Dev.ok_texts h).2 _ (Nat.le_refl _)
    exact (Dev.ok_texts h).1 _ (getD_mem (by omega))
  · exact Nat.zero_le _
/-- the sector of the newer slot, its number, its text -/
noncomputable def Dev.root (d : Dev) : Int × Int × ByteArray :=
  if (readS (d.lies 0)).2.2 = true ∧ ((readS (d.lies 1)).2.2 = true → (readS (d.lies 1)).1 ≤ (readS (d.lies 0)).1) then (0, (readS (d.lies 0)).1, (readS (d.lies 0)).2.1)
  else if (readS (d.lies 1)).2.2 = true then (1, (readS (d.lies 1)).1, (readS (d.lies 1)).2.1) else (-1, 0, ⟨#[]⟩)
noncomputable def Dev.root9 (d : Dev) : Int × Int × ByteArray := if d.ok = true ∧ ¬ d.secs.length < 2 then d.root else (-1, 0, ⟨#[]⟩)
theorem ok216b (d : Dev) (hd : d.ok = true) (a : Int) (h1 : 0 ≤ a) (h2 : a < d.secs.length) : VCalls gz 216 [d.enc false, .lit (.int .i64 a)] none (fun y _ => y = .lit (.string (d.lies a))) := by
  have e : d.lies a = liesN d.late a (d.secs.getD a.toNat default) d.late.length := if_pos ⟨hd, h1, h2⟩
  rw [e]
  exact ok216 d a h1 h2 (by have := (Dev.ok_small hd).2; omega)
theorem readS_pos {s : ByteArray} (h : (readS s).2.2 = true) : 1 ≤ (readS s).1 ∧ (readS s).1 ≤ 1000000 := by
  rcases readS_cases s with ⟨n, t, hr⟩ | hno
  · rw [readS_is hr]; exact hr.rng
  · rw [readS_no hno] at h; cases h
theorem Dev.root9_no {d : Dev} (h : ¬ (d.ok = true ∧ ¬ d.secs.length < 2)) : d.root9 = (-1, 0, ⟨#[]⟩) := if_neg h
theorem ok141 (d : Dev) : VCalls gz 141 [d.enc false] none (fun y _ => y = .tup [.lit (.int .i64 d.root9.1), .lit (.int .i64 d.root9.2.1), .lit (.string d.root9.2.2)]) := by
  refine VCalls.go (nt := 51) (keep := [0, 1, 2, 3, 4, 5, 6, 7, 8, 9, 10, 19, 34, 47]) (muts := []) (mvs := []) [] f141_at rfl (by kernel_rfl) rfl (by kernel_rfl) rfl (fun i h => by cases h) rfl ?_
  intro hok
  simp only [go_sem, Nat.reduceAdd, Nat.reduceSub, Nat.reduceMul, Nat.reduceEqDiff, Nat.reduceBEq, Nat.reduceBNe, Nat.reduceLT, Nat.reduceLeDiff, Int.reduceNeg, Int.reduceAdd, Int.reduceSub, Int.reduceMul, Int.reduceEq, Int.reduceLT, Int.reduceLE, Int.reduceToNat, reduceIte, reduceCtorEq] at hok
  simp only [Tryz.f141, Func.code, Option.getD_some]
  simp only [go_sem, Nat.reduceAdd, Nat.reduceSub, Nat.reduceMul, Nat.reduceEqDiff, Nat.reduceBEq, Nat.reduceBNe, Nat.reduceLT, Nat.reduceLeDiff, Int.reduceNeg, Int.reduceAdd, Int.reduceSub, Int.reduceMul, Int.reduceEq, Int.reduceLT, Int.reduceLE, Int.reduceToNat, reduceIte, reduceCtorEq]
  refine call_lend ?_
  simp only [go_sem, Nat.reduceAdd, Nat.reduceSub, Nat.reduceMul, Nat.reduceEqDiff, Nat.reduceBEq, Nat.reduceBNe, Nat.reduceLT, Nat.reduceLeDiff, Int.reduceNeg, Int.reduceAdd, Int.reduceSub, Int.reduceMul, Int.reduceEq, Int.reduceLT, Int.reduceLE, Int.reduceToNat, reduceIte, reduceCtorEq]
  refine callN.eq (ok109 d) (by simp only [go_sem, Nat.reduceAdd, Nat.reduceSub, Nat.reduceMul, Nat.reduceEqDiff, Nat.reduceBEq, Nat.reduceBNe, Nat.reduceLT, Nat.reduceLeDiff, Int.reduceNeg, Int.reduceAdd, Int.reduceSub, Int.reduceMul, Int.reduceEq, Int.reduceLT, Int.reduceLE, Int.reduceToNat, reduceIte, reduceCtorEq]) ?_
  simp only [go_sem, Nat.reduceAdd, Nat.reduceSub, Nat.reduceMul, Nat.reduceEqDiff, Nat.reduceBEq, Nat.reduceBNe, Nat.reduceLT, Nat.reduceLeDiff, Int.reduceNeg, Int.reduceAdd, Int.reduceSub, Int.reduceMul, Int.reduceEq, Int.reduceLT, Int.reduceLE, Int.reduceToNat, reduceIte, reduceCtorEq]
  first | refine gj_ndec (fun h1 => ?_) (fun h1 => ?_) | refine gj_dec (fun h1 => ?_) (fun h1 => ?_) | refine gj_nbool (fun h1 => ?_) (fun h1 => ?_) | refine gj_bool (fun h1 => ?_) (fun h1 => ?_)
  · simp only [go_sem, Nat.reduceAdd, Nat.reduceSub, Nat.reduceMul, Nat.reduceEqDiff, Nat.reduceBEq, Nat.reduceBNe, Nat.reduceLT, Nat.reduceLeDiff, Int.reduceNeg, Int.reduceAdd, Int.reduceSub, Int.reduceMul, Int.reduceEq, Int.reduceLT, Int.reduceLE, Int.reduceToNat, reduceIte, reduceCtorEq, h1]
    intro _
    first | refine branch_ndec (fun h2 => ?_) (fun h2 => ?_) | refine branch_dec (fun h2 => ?_) (fun h2 => ?_) | refine branch_nbool (fun h2 => ?_) (fun h2 => ?_) | refine branch_split (fun h2 => ?_) (fun h2 => ?_)
    · rw [Dev.root9_no (by omega)]
      simp only [go_sem, Nat.reduceAdd, Nat.reduceSub, Nat.reduceMul, Nat.reduceEqDiff, Nat.reduceBEq, Nat.reduceBNe, Nat.reduceLT, Nat.reduceLeDiff, Int.reduceNeg, Int.reduceAdd, Int.reduceSub, Int.reduceMul, Int.reduceEq, Int.reduceLT, Int.reduceLE, Int.reduceToNat, reduceIte, reduceCtorEq]
    · have e : d.root9 = d.root := if_pos ⟨h1, by omega⟩
      rw [e]
      have z0 := Dev.lies_size h1 0
      have z1 := Dev.lies_size h1 1
      simp only [go_sem, Nat.reduceAdd, Nat.reduceSub, Nat.reduceMul, Nat.reduceEqDiff, Nat.reduceBEq, Nat.reduceBNe, Nat.reduceLT, Nat.reduceLeDiff, Int.reduceNeg, Int.reduceAdd, Int.reduceSub, Int.reduceMul, Int.reduceEq, Int.reduceLT, Int.reduceLE, Int.reduceToNat, reduceIte, reduceCtorEq]
      refine call_lend ?_
      simp only [go_sem, Nat.reduceAdd, Nat.reduceSub, Nat.reduceMul, Nat.reduceEqDiff, Nat.reduceBEq, Nat.reduceBNe, Nat.reduceLT, Nat.reduceLeDiff, Int.reduceNeg, Int.reduceAdd, Int.reduceSub, Int.reduceMul, Int.reduceEq, Int.reduceLT, Int.reduceLE, Int.reduceToNat, reduceIte, reduceCtorEq]
      refine callN.eq (ok221 d 0) (by simp only [go_sem, Nat.reduceAdd, Nat.reduceSub, Nat.reduceMul, Nat.reduceEqDiff, Nat.reduceBEq, Nat.reduceBNe, Nat.reduceLT, Nat.reduceLeDiff, Int.reduceNeg, Int.reduceAdd, Int.reduceSub, Int.reduceMul, Int.reduceEq, Int.reduceLT, Int.reduceLE, Int.reduceToNat, reduceIte, reduceCtorEq]) ?_
      simp only [go_sem, Nat.reduceAdd, Nat.reduceSub, Nat.reduceMul, Nat.reduceEqDiff, Nat.reduceBEq, Nat.reduceBNe, Nat.reduceLT, Nat.reduceLeDiff, Int.reduceNeg, Int.reduceAdd, Int.reduceSub, Int.reduceMul, Int.reduceEq, Int.reduceLT, Int.reduceLE, Int.reduceToNat, reduceIte, reduceCtorEq]
      refine call_lend ?_
      simp only [go_sem, Nat.reduceAdd, Nat.reduceSub, Nat.reduceMul, Nat.reduceEqDiff, Nat.reduceBEq, Nat.reduceBNe, Nat.reduceLT, Nat.reduceLeDiff, Int.reduceNeg, Int.reduceAdd, Int.reduceSub, Int.reduceMul, Int.reduceEq, Int.reduceLT, Int.reduceLE, Int.reduceToNat, reduceIte, reduceCtorEq]
      refine callN.eq (ok37 (d.lies 0) (by omega)) (by simp only [go_sem, Nat.reduceAdd, Nat.reduceSub, Nat.reduceMul, Nat.reduceEqDiff, Nat.reduceBEq, Nat.reduceBNe, Nat.reduceLT, Nat.reduceLeDiff, Int.reduceNeg, Int.reduceAdd, Int.reduceSub, Int.reduceMul, Int.reduceEq, Int.reduceLT, Int.reduceLE, Int.reduceToNat, reduceIte, reduceCtorEq]) ?_
      simp only [go_sem, Nat.reduceAdd, Nat.reduceSub, Nat.reduceMul, Nat.reduceEqDiff, Nat.reduceBEq, Nat.reduceBNe, Nat.reduceLT, Nat.reduceLeDiff, Int.reduceNeg, Int.reduceAdd, Int.reduceSub, Int.reduceMul, Int.reduceEq, Int.reduceLT, Int.reduceLE, Int.reduceToNat, reduceIte, reduceCtorEq]
      refine call_lend ?_
      simp only [go_sem, Nat.reduceAdd, Nat.reduceSub, Nat.reduceMul, Nat.reduceEqDiff, Nat.reduceBEq, Nat.reduceBNe, Nat.reduceLT, Nat.reduceLeDiff, Int.reduceNeg, Int.reduceAdd, Int.reduceSub, Int.reduceMul, Int.reduceEq, Int.reduceLT, Int.reduceLE, Int.reduceToNat, reduceIte, reduceCtorEq]
      refine callN.eq (ok221 d 1) (by simp only [go_sem, Nat.reduceAdd, Nat.reduceSub, Nat.reduceMul, Nat.reduceEqDiff, Nat.reduceBEq, Nat.reduceBNe, Nat.reduceLT, Nat.reduceLeDiff, Int.reduceNeg, Int.reduceAdd, Int.reduceSub, Int.reduceMul, Int.reduceEq, Int.reduceLT, Int.reduceLE, Int.reduceToNat, reduceIte, reduceCtorEq]) ?_
      simp only [go_sem, Nat.reduceAdd, Nat.reduceSub, Nat.reduceMul, Nat.reduceEqDiff, Nat.reduceBEq, Nat.reduceBNe, Nat.reduceLT, Nat.reduceLeDiff, Int.reduceNeg, Int.reduceAdd, Int.reduceSub, Int.reduceMul, Int.reduceEq, Int.reduceLT, Int.reduceLE, Int.reduceToNat, reduceIte, reduceCtorEq]
      refine call_lend ?_
      simp only [go_sem, Nat.reduceAdd, Nat.reduceSub, Nat.reduceMul, Nat.reduceEqDiff, Nat.reduceBEq, Nat.reduceBNe, Nat.reduceLT, Nat.reduceLeDiff, Int.reduceNeg, Int.reduceAdd, Int.reduceSub, Int.reduceMul, Int.reduceEq, Int.reduceLT, Int.reduceLE, Int.reduceToNat, reduceIte, reduceCtorEq]
      refine callN.eq (ok37 (d.lies 1) (by omega)) (by simp only [go_sem, Nat.reduceAdd, Nat.reduceSub, Nat.reduceMul, Nat.reduceEqDiff, Nat.reduceBEq, Nat.reduceBNe, Nat.reduceLT, Nat.reduceLeDiff, Int.reduceNeg, Int.reduceAdd, Int.reduceSub, Int.reduceMul, Int.reduceEq, Int.reduceLT, Int.reduceLE, Int.reduceToNat, reduceIte, reduceCtorEq]) ?_
      simp only [go_sem, Nat.reduceAdd, Nat.reduceSub, Nat.reduceMul, Nat.reduceEqDiff, Nat.reduceBEq, Nat.reduceBNe, Nat.reduceLT, Nat.reduceLeDiff, Int.reduceNeg, Int.reduceAdd, Int.reduceSub, Int.reduceMul, Int.reduceEq, Int.reduceLT, Int.reduceLE, Int.reduceToNat, reduceIte, reduceCtorEq]
      cases hA : (readS (d.lies 0)).2.2 <;> cases hB : (readS (d.lies 1)).2.2
      · have e2 : d.root = (-1, 0, ⟨#[]⟩) := by unfold Dev.root; rw [if_neg (by rw [hA]; simp), if_neg (by rw [hB]; simp)]
        rw [e2]
        simp only [go_sem, Nat.reduceAdd, Nat.reduceSub, Nat.reduceMul, Nat.reduceEqDiff, Nat.reduceBEq, Nat.reduceBNe, Nat.reduceLT, Nat.reduceLeDiff, Int.reduceNeg, Int.reduceAdd, Int.reduceSub, Int.reduceMul, Int.reduceEq, Int.reduceLT, Int.reduceLE, Int.reduceToNat, reduceIte, reduceCtorEq]
      · have e2 : d.root = (1, (readS (d.lies 1)).1, (readS (d.lies 1)).2.1) := by unfold Dev.root; rw [if_neg (by rw [hA]; simp), if_pos hB]
        rw [e2]
        simp only [go_sem, Nat.reduceAdd, Nat.reduceSub, Nat.reduceMul, Nat.reduceEqDiff, Nat.reduceBEq, Nat.reduceBNe, Nat.reduceLT, Nat.reduceLeDiff, Int.reduceNeg, Int.reduceAdd, Int.reduceSub, Int.reduceMul, Int.reduceEq, Int.reduceLT, Int.reduceLE, Int.reduceToNat, reduceIte, reduceCtorEq]
      · have e2 : d.root = (0, (readS (d.lies 0)).1, (readS (d.lies 0)).2.1) := by unfold Dev.root; rw [if_pos ⟨hA, by rw [hB]; simp⟩]
        rw [e2]
        simp only [go_sem, Nat.reduceAdd, Nat.reduceSub, Nat.reduceMul, Nat.reduceEqDiff, Nat.reduceBEq, Nat.reduceBNe, Nat.reduceLT, Nat.reduceLeDiff, Int.reduceNeg, Int.reduceAdd, Int.reduceSub, Int.reduceMul, Int.reduceEq, Int.reduceLT, Int.reduceLE, Int.reduceToNat, reduceIte, reduceCtorEq]
      · simp only [go_sem, Nat.reduceAdd, Nat.reduceSub, Nat.reduceMul, Nat.reduceEqDiff, Nat.reduceBEq, Nat.reduceBNe, Nat.reduceLT, Nat.reduceLeDiff, Int.reduceNeg, Int.reduceAdd, Int.reduceSub, Int.reduceMul, Int.reduceEq, Int.reduceLT, Int.reduceLE, Int.reduceToNat, reduceIte, reduceCtorEq]
        first | refine branch_ndec (fun h3 => ?_) (fun h3 => ?_) | refine branch_dec (fun h3 => ?_) (fun h3 => ?_) | refine branch_nbool (fun h3 => ?_) (fun h3 => ?_) | refine branch_split (fun h3 => ?_) (fun h3 => ?_)
        · have e2 : d.root = (0, (readS (d.lies 0)).1, (readS (d.lies 0)).2.1) := by unfold Dev.root; rw [if_pos ⟨hA, fun _ => by omega⟩]
          rw [e2]
          simp only [go_sem, Nat.reduceAdd, Nat.reduceSub, Nat.reduceMul, Nat.reduceEqDiff, Nat.reduceBEq, Nat.reduceBNe, Nat.reduceLT, Nat.reduceLeDiff, Int.reduceNeg, Int.reduceAdd, Int.reduceSub, Int.reduceMul, Int.reduceEq, Int.reduceLT, Int.reduceLE, Int.reduceToNat, reduceIte, reduceCtorEq]
        · have e2 : d.root = (1, (readS (d.lies 1)).1, (readS (d.lies 1)).2.1) := by unfold Dev.root; rw [if_neg (fun h => h3 (by have := h.2 hB; omega)), if_pos hB]
          rw [e2]
          simp only [go_sem, Nat.reduceAdd, Nat.reduceSub, Nat.reduceMul, Nat.reduceEqDiff, Nat.reduceBEq, Nat.reduceBNe, Nat.reduceLT, Nat.reduceLeDiff, Int.reduceNeg, Int.reduceAdd, Int.reduceSub, Int.reduceMul, Int.reduceEq, Int.reduceLT, Int.reduceLE, Int.reduceToNat, reduceIte, reduceCtorEq]
  · rw [Dev.root9_no (by rw [h1]; simp)]
    simp only [go_sem, Nat.reduceAdd, Nat.reduceSub, Nat.reduceMul, Nat.reduceEqDiff, Nat.reduceBEq, Nat.reduceBNe, Nat.reduceLT, Nat.reduceLeDiff, Int.reduceNeg, Int.reduceAdd, Int.reduceSub, Int.reduceMul, Int.reduceEq, Int.reduceLT, Int.reduceLE, Int.reduceToNat, reduceIte, reduceCtorEq, h1]
def rstep (k : Int) (R : Int × ByteArray × Bool) (p : Int × Int × ByteArray) : Int × Int × ByteArray := if R.2.2 = true ∧ p.2.1 < R.1 then (k, R.1, R.2.1) else p
noncomputable def rootN (d : Dev) : Nat → Int × Int × ByteArray
  | 0 => (-1, 0, ⟨#[]⟩)
  | k + 1 => rstep k (readS (d.lies k)) (rootN d k)
theorem rootN_two (d : Dev) : rootN d 2 = d.root := by
  show rstep 1 (readS (d.lies 1)) (rstep 0 (readS (d.lies 0)) (-1, 0, ⟨#[]⟩)) = d.root
  unfold Dev.root
  have h0 : (readS (d.lies 0)).2.2 = true → 1 ≤ (readS (d.lies 0)).1 := fun h => (readS_pos h).1
  have h1 : (readS (d.lies 1)).2.2 = true → 1 ≤ (readS (d.lies 1)).1 := fun h => (readS_pos h).1
  generalize readS (d.lies 0) = A at *
  generalize readS (d.lies 1) = B at *
  obtain ⟨a1, a2, a3⟩ := A
  obtain ⟨b1, b2, b3⟩ := B
  simp only at h0 h1 ⊢
  unfold rstep
  cases a3 <;> cases b3
  · simp
  · have := h1 rfl
    simp
    omega
  · have := h0 rfl
    simp
    omega
  · have := h0 rfl
    have := h1 rfl
    simp only [true_and, forall_const]
    rw [if_pos (show (0 : Int) < a1 by omega)]
    simp only
    split <;> split <;> first | rfl | omega
theorem ok131 (d : Dev) (hd : d.ok = true) (h2 : 2 ≤ d.secs.length) : VCalls gz 131 [d.enc false] none (fun y _ => y = .tup [.lit (.int .i64 d.root.1), .lit (.int .i64 d.root.2.1), .lit (.string d.root.2.2)]) := by
  refine VCalls.go (nt := 36) (keep := [0, 1, 2, 3, 4, 5, 6, 7, 8, 9, 10, 11, 12, 13, 28]) (muts := []) (mvs := []) [] f131_at rfl (by kernel_rfl) rfl (by kernel_rfl) rfl (fun i h => by cases h) rfl ?_
  intro hok
  simp only [go_sem, Nat.reduceAdd, Nat.reduceSub, Nat.reduceMul, Nat.reduceEqDiff, Nat.reduceBEq, Nat.reduceBNe, Nat.reduceLT, Nat.reduceLeDiff, Int.reduceNeg, Int.reduceAdd, Int.reduceSub, Int.reduceMul, Int.reduceEq, Int.reduceLT, Int.reduceLE, Int.reduceToNat, reduceIte, reduceCtorEq] at hok
  simp only [Tryz.f131, Func.code, Option.getD_some]
  simp only [go_sem, Nat.reduceAdd, Nat.reduceSub, Nat.reduceMul, Nat.reduceEqDiff, Nat.reduceBEq, Nat.reduceBNe, Nat.reduceLT, Nat.reduceLeDiff, Int.reduceNeg, Int.reduceAdd, Int.reduceSub, Int.reduceMul, Int.reduceEq, Int.reduceLT, Int.reduceLE, Int.reduceToNat, reduceIte, reduceCtorEq]
  refine vm_loopK (α := Nat) (fun k => [(0, d.enc false), (1, .ptr true (d.enc false)), (5, .lit (.int .i64 (rootN d k).1)), (6, .lit (.int .i64 (rootN d k).2.1)), (7, .lit (.string (rootN d k).2.2)), (12, .lit (.int .i64 k))]) (fun k => k ≤ 2) (fun k => 2 - k) 0 ?_ (by simp) (by kernel_rfl) (fun _ => rfl) ?_
  · simp only [go_sem, Nat.reduceAdd, Nat.reduceSub, Nat.reduceMul, Nat.reduceEqDiff, Nat.reduceBEq, Nat.reduceBNe, Nat.reduceLT, Nat.reduceLeDiff, Int.reduceNeg, Int.reduceAdd, Int.reduceSub, Int.reduceMul, Int.reduceEq, Int.reduceLT, Int.reduceLE, Int.reduceToNat, reduceIte, reduceCtorEq]
    trivial
  · intro k hk hok2
    have hw : IntKind.i64.wrap ((k : Int) + 1) = (k : Int) + 1 := wrap64 (by omega) (by omega)
    simp only [go_sem, Nat.reduceAdd, Nat.reduceSub, Nat.reduceMul, Nat.reduceEqDiff, Nat.reduceBEq, Nat.reduceBNe, Nat.reduceLT, Nat.reduceLeDiff, Int.reduceNeg, Int.reduceAdd, Int.reduceSub, Int.reduceMul, Int.reduceEq, Int.reduceLT, Int.reduceLE, Int.reduceToNat, reduceIte, reduceCtorEq]
    first | refine branch_ndec (fun h1 => ?_) (fun h1 => ?_) | refine branch_dec (fun h1 => ?_) (fun h1 => ?_) | refine branch_nbool (fun h1 => ?_) (fun h1 => ?_) | refine branch_split (fun h1 => ?_) (fun h1 => ?_)
    · simp only [go_sem, Nat.reduceAdd, Nat.reduceSub, Nat.reduceMul, Nat.reduceEqDiff, Nat.reduceBEq, Nat.reduceBNe, Nat.reduceLT, Nat.reduceLeDiff, Int.reduceNeg, Int.reduceAdd, Int.reduceSub, Int.reduceMul, Int.reduceEq, Int.reduceLT, Int.reduceLE, Int.reduceToNat, reduceIte, reduceCtorEq]
      refine call_lend ?_
      simp only [go_sem, Nat.reduceAdd, Nat.reduceSub, Nat.reduceMul, Nat.reduceEqDiff, Nat.reduceBEq, Nat.reduceBNe, Nat.reduceLT, Nat.reduceLeDiff, Int.reduceNeg, Int.reduceAdd, Int.reduceSub, Int.reduceMul, Int.reduceEq, Int.reduceLT, Int.reduceLE, Int.reduceToNat, reduceIte, reduceCtorEq]
      refine callN.eq (ok216b d hd k (by omega) (by omega)) (by simp only [go_sem, Nat.reduceAdd, Nat.reduceSub, Nat.reduceMul, Nat.reduceEqDiff, Nat.reduceBEq, Nat.reduceBNe, Nat.reduceLT, Nat.reduceLeDiff, Int.reduceNeg, Int.reduceAdd, Int.reduceSub, Int.reduceMul, Int.reduceEq, Int.reduceLT, Int.reduceLE, Int.reduceToNat, reduceIte, reduceCtorEq]) ?_
      simp only [go_sem, Nat.reduceAdd, Nat.reduceSub, Nat.reduceMul, Nat.reduceEqDiff, Nat.reduceBEq, Nat.reduceBNe, Nat.reduceLT, Nat.reduceLeDiff, Int.reduceNeg, Int.reduceAdd, Int.reduceSub, Int.reduceMul, Int.reduceEq, Int.reduceLT, Int.reduceLE, Int.reduceToNat, reduceIte, reduceCtorEq]
      have z0 := Dev.lies_size hd k
      refine call_lend ?_
      simp only [go_sem, Nat.reduceAdd, Nat.reduceSub, Nat.reduceMul, Nat.reduceEqDiff, Nat.reduceBEq, Nat.reduceBNe, Nat.reduceLT, Nat.reduceLeDiff, Int.reduceNeg, Int.reduceAdd, Int.reduceSub, Int.reduceMul, Int.reduceEq, Int.reduceLT, Int.reduceLE, Int.reduceToNat, reduceIte, reduceCtorEq]
      refine callN.eq (ok32 (d.lies k) (by omega)) (by simp only [go_sem, Nat.reduceAdd, Nat.reduceSub, Nat.reduceMul, Nat.reduceEqDiff, Nat.reduceBEq, Nat.reduceBNe, Nat.reduceLT, Nat.reduceLeDiff, Int.reduceNeg, Int.reduceAdd, Int.reduceSub, Int.reduceMul, Int.reduceEq, Int.reduceLT, Int.reduceLE, Int.reduceToNat, reduceIte, reduceCtorEq]) ?_
      simp only [go_sem, Nat.reduceAdd, Nat.reduceSub, Nat.reduceMul, Nat.reduceEqDiff, Nat.reduceBEq, Nat.reduceBNe, Nat.reduceLT, Nat.reduceLeDiff, Int.reduceNeg, Int.reduceAdd, Int.reduceSub, Int.reduceMul, Int.reduceEq, Int.reduceLT, Int.reduceLE, Int.reduceToNat, reduceIte, reduceCtorEq]
      cases hA : (readS (d.lies k)).2.2
      · have hn : rootN d (k + 1) = rootN d k := if_neg (by rw [hA]; simp)
        simp only [go_sem, Nat.reduceAdd, Nat.reduceSub, Nat.reduceMul, Nat.reduceEqDiff, Nat.reduceBEq, Nat.reduceBNe, Nat.reduceLT, Nat.reduceLeDiff, Int.reduceNeg, Int.reduceAdd, Int.reduceSub, Int.reduceMul, Int.reduceEq, Int.reduceLT, Int.reduceLE, Int.reduceToNat, reduceIte, reduceCtorEq, hw]
        refine again_intro (k + 1) (by omega) (by omega) ?_
        simp only [go_sem, Nat.reduceAdd, Nat.reduceSub, Nat.reduceMul, Nat.reduceEqDiff, Nat.reduceBEq, Nat.reduceBNe, Nat.reduceLT, Nat.reduceLeDiff, Int.reduceNeg, Int.reduceAdd, Int.reduceSub, Int.reduceMul, Int.reduceEq, Int.reduceLT, Int.reduceLE, Int.reduceToNat, reduceIte, reduceCtorEq, hn]
        trivial
      · simp only [go_sem, Nat.reduceAdd, Nat.reduceSub, Nat.reduceMul, Nat.reduceEqDiff, Nat.reduceBEq, Nat.reduceBNe, Nat.reduceLT, Nat.reduceLeDiff, Int.reduceNeg, Int.reduceAdd, Int.reduceSub, Int.reduceMul, Int.reduceEq, Int.reduceLT, Int.reduceLE, Int.reduceToNat, reduceIte, reduceCtorEq]
        first | refine branch_ndec (fun h3 => ?_) (fun h3 => ?_) | refine branch_dec (fun h3 => ?_) (fun h3 => ?_) | refine branch_nbool (fun h3 => ?_) (fun h3 => ?_) | refine branch_split (fun h3 => ?_) (fun h3 => ?_)
        · have hn : rootN d (k + 1) = ((k : Int), (readS (d.lies k)).1, (readS (d.lies k)).2.1) := if_pos ⟨hA, h3⟩
          simp only [go_sem, Nat.reduceAdd, Nat.reduceSub, Nat.reduceMul, Nat.reduceEqDiff, Nat.reduceBEq, Nat.reduceBNe, Nat.reduceLT, Nat.reduceLeDiff, Int.reduceNeg, Int.reduceAdd, Int.reduceSub, Int.reduceMul, Int.reduceEq, Int.reduceLT, Int.reduceLE, Int.reduceToNat, reduceIte, reduceCtorEq, hw]
          refine again_intro (k + 1) (by omega) (by omega) ?_
          simp only [go_sem, Nat.reduceAdd, Nat.reduceSub, Nat.reduceMul, Nat.reduceEqDiff, Nat.reduceBEq, Nat.reduceBNe, Nat.reduceLT, Nat.reduceLeDiff, Int.reduceNeg, Int.reduceAdd, Int.reduceSub, Int.reduceMul, Int.reduceEq, Int.reduceLT, Int.reduceLE, Int.reduceToNat, reduceIte, reduceCtorEq, hn]
          trivial
        · have hn : rootN d (k + 1) = rootN d k := if_neg (fun h => h3 h.2)
          simp only [go_sem, Nat.reduceAdd, Nat.reduceSub, Nat.reduceMul, Nat.reduceEqDiff, Nat.reduceBEq, Nat.reduceBNe, Nat.reduceLT, Nat.reduceLeDiff, Int.reduceNeg, Int.reduceAdd, Int.reduceSub, Int.reduceMul, Int.reduceEq, Int.reduceLT, Int.reduceLE, Int.reduceToNat, reduceIte, reduceCtorEq, hw]
          refine again_intro (k + 1) (by omega) (by omega) ?_
          simp only [go_sem, Nat.reduceAdd, Nat.reduceSub, Nat.reduceMul, Nat.reduceEqDiff, Nat.reduceBEq, Nat.reduceBNe, Nat.reduceLT, Nat.reduceLeDiff, Int.reduceNeg, Int.reduceAdd, Int.reduceSub, Int.reduceMul, Int.reduceEq, Int.reduceLT, Int.reduceLE, Int.reduceToNat, reduceIte, reduceCtorEq, hn]
          trivial
    · have e : k = 2 := by omega
      subst e
      simp only [go_sem, Nat.reduceAdd, Nat.reduceSub, Nat.reduceMul, Nat.reduceEqDiff, Nat.reduceBEq, Nat.reduceBNe, Nat.reduceLT, Nat.reduceLeDiff, Int.reduceNeg, Int.reduceAdd, Int.reduceSub, Int.reduceMul, Int.reduceEq, Int.reduceLT, Int.reduceLE, Int.reduceToNat, reduceIte, reduceCtorEq]
      rw [rootN_two]
      exact ⟨rfl, rfl, rfl⟩
end Go.VS

set_option linter.unusedSimpArgs false
set_option linter.unusedVariables false
open Go.Proofs
set_option maxRecDepth 20000
namespace Go.VS
theorem f110_at : gz.P.funcs[110]? = some Tryz.f110 := by
  have h : Tryz.prog.funcs[110]? = some Tryz.f110 := by kernel_rfl
  exact h
theorem f115_at : gz.P.funcs[115]? = some Tryz.f115 := by
  have h : Tryz.prog.funcs[115]? = some Tryz.f115 := by kernel_rfl
  exact h
theorem Dev.root_rng (d : Dev) : 0 ≤ d.root.2.1 ∧ d.root.2.1 ≤ 1000000 := by
  unfold Dev.root
  split
  · rename_i h
    have := readS_pos h.1
    simp only
    omega
  · split
    · rename_i h
      have := readS_pos h
      simp only
      omega
    · simp
/-- where the next slot goes -/
noncomputable def Dev.to (d : Dev) : Int := if d.root.1 = 0 then 1 else 0
noncomputable def Dev.slot (d : Dev) (t : ByteArray) : ByteArray := slotS (d.root.2.1 + 1) t
noncomputable def Dev.may (d : Dev) (t : ByteArray) : Prop := d.ok = true ∧ 2 ≤ d.secs.length ∧ ¬ d.slot t = ⟨#[]⟩
noncomputable def Dev.laid (d : Dev) (t : ByteArray) : Dev := ⟨d.barrier.secs, [⟨d.to, d.slot t⟩]⟩
theorem Dev.barrier_eq {d : Dev} (h : d.ok = true) : d.barrier = d.settled fun _ => true := if_pos h
theorem Dev.barrier_len {d : Dev} (h : d.ok = true) : d.barrier.secs.length = d.secs.length ∧ d.barrier.late = [] := by
  rw [Dev.barrier_eq h]
  exact ⟨settleN_length _ _ _ _, rfl⟩
theorem Dev.to_rng (d : Dev) : 0 ≤ d.to ∧ d.to ≤ 1 := by unfold Dev.to; split <;> omega
theorem Dev.barrier_lay {d : Dev} {t : ByteArray} (h : d.ok = true) (h2 : 2 ≤ d.secs.length) : d.barrier.lay d.to (d.slot t) = (d.laid t, true) := by
  have h1 := Dev.barrier_len h
  have h3 := Dev.to_rng d
  have h4 : (d.slot t).size ≤ 344 := slotS_size _ _
  have hf : d.barrier.fits d.to (d.slot t) = true := by
    simp only [Dev.fits, Bool.and_eq_true, decide_eq_true_eq, h1.1]
    omega
  unfold Dev.lay
  rw [if_pos (Dev.barrier_ok h), if_pos ⟨hf, by rw [h1.2]; decide⟩, h1.2]
  rfl
theorem ok110 (d : Dev) (t : ByteArray) : VCalls gz 110 [d.enc false, .lit (.string t)] none (fun y _ => (¬ d.may t ∧ y = .tup [Dev.none.enc true, .lit (.bool false)]) ∨ (d.may t ∧ y = .tup [(d.laid t).enc true, .lit (.bool true)])) := by
  refine VCalls.go (nt := 43) (keep := [0, 1, 2, 4, 5, 6, 7, 9, 10, 19, 32, 35]) (muts := []) (mvs := []) [] f110_at rfl (by kernel_rfl) rfl (by kernel_rfl) rfl (fun i h => by cases h) rfl ?_
  intro hok
  simp only [go_sem, Nat.reduceAdd, Nat.reduceSub, Nat.reduceMul, Nat.reduceEqDiff, Nat.reduceBEq, Nat.reduceBNe, Nat.reduceLT, Nat.reduceLeDiff, Int.reduceNeg, Int.reduceAdd, Int.reduceSub, Int.reduceMul, Int.reduceEq, Int.reduceLT, Int.reduceLE, Int.reduceToNat, reduceIte, reduceCtorEq] at hok
  simp only [Tryz.f110, Func.code, Option.getD_some]
  simp only [go_sem, Nat.reduceAdd, Nat.reduceSub, Nat.reduceMul, Nat.reduceEqDiff, Nat.reduceBEq, Nat.reduceBNe, Nat.reduceLT, Nat.reduceLeDiff, Int.reduceNeg, Int.reduceAdd, Int.reduceSub, Int.reduceMul, Int.reduceEq, Int.reduceLT, Int.reduceLE, Int.reduceToNat, reduceIte, reduceCtorEq]
  refine call_lend ?_
  simp only [go_sem, Nat.reduceAdd, Nat.reduceSub, Nat.reduceMul, Nat.reduceEqDiff, Nat.reduceBEq, Nat.reduceBNe, Nat.reduceLT, Nat.reduceLeDiff, Int.reduceNeg, Int.reduceAdd, Int.reduceSub, Int.reduceMul, Int.reduceEq, Int.reduceLT, Int.reduceLE, Int.reduceToNat, reduceIte, reduceCtorEq]
  refine callN.eq (ok109 d) (by simp only [go_sem, Nat.reduceAdd, Nat.reduceSub, Nat.reduceMul, Nat.reduceEqDiff, Nat.reduceBEq, Nat.reduceBNe, Nat.reduceLT, Nat.reduceLeDiff, Int.reduceNeg, Int.reduceAdd, Int.reduceSub, Int.reduceMul, Int.reduceEq, Int.reduceLT, Int.reduceLE, Int.reduceToNat, reduceIte, reduceCtorEq]) ?_
  simp only [go_sem, Nat.reduceAdd, Nat.reduceSub, Nat.reduceMul, Nat.reduceEqDiff, Nat.reduceBEq, Nat.reduceBNe, Nat.reduceLT, Nat.reduceLeDiff, Int.reduceNeg, Int.reduceAdd, Int.reduceSub, Int.reduceMul, Int.reduceEq, Int.reduceLT, Int.reduceLE, Int.reduceToNat, reduceIte, reduceCtorEq]
  first | refine gj_ndec (fun h1 => ?_) (fun h1 => ?_) | refine gj_dec (fun h1 => ?_) (fun h1 => ?_) | refine gj_nbool (fun h1 => ?_) (fun h1 => ?_) | refine gj_bool (fun h1 => ?_) (fun h1 => ?_)
  · simp only [go_sem, Nat.reduceAdd, Nat.reduceSub, Nat.reduceMul, Nat.reduceEqDiff, Nat.reduceBEq, Nat.reduceBNe, Nat.reduceLT, Nat.reduceLeDiff, Int.reduceNeg, Int.reduceAdd, Int.reduceSub, Int.reduceMul, Int.reduceEq, Int.reduceLT, Int.reduceLE, Int.reduceToNat, reduceIte, reduceCtorEq, h1]
    intro _
    first | refine branch_ndec (fun h2 => ?_) (fun h2 => ?_) | refine branch_dec (fun h2 => ?_) (fun h2 => ?_) | refine branch_nbool (fun h2 => ?_) (fun h2 => ?_) | refine branch_split (fun h2 => ?_) (fun h2 => ?_)
    · simp only [go_sem, Nat.reduceAdd, Nat.reduceSub, Nat.reduceMul, Nat.reduceEqDiff, Nat.reduceBEq, Nat.reduceBNe, Nat.reduceLT, Nat.reduceLeDiff, Int.reduceNeg, Int.reduceAdd, Int.reduceSub, Int.reduceMul, Int.reduceEq, Int.reduceLT, Int.reduceLE, Int.reduceToNat, reduceIte, reduceCtorEq]
      exact ⟨fun h => by have := h.2.1; omega, rfl, rfl⟩
    · have e : d.root9 = d.root := if_pos ⟨h1, by omega⟩
      have hr := Dev.root_rng d
      have hw : IntKind.i64.wrap (d.root.2.1 + 1) = d.root.2.1 + 1 := wrap64 (by omega) (by omega)
      have hsm := (Dev.ok_small h1).1
      simp only [go_sem, Nat.reduceAdd, Nat.reduceSub, Nat.reduceMul, Nat.reduceEqDiff, Nat.reduceBEq, Nat.reduceBNe, Nat.reduceLT, Nat.reduceLeDiff, Int.reduceNeg, Int.reduceAdd, Int.reduceSub, Int.reduceMul, Int.reduceEq, Int.reduceLT, Int.reduceLE, Int.reduceToNat, reduceIte, reduceCtorEq]
      refine call_lend ?_
      simp only [go_sem, Nat.reduceAdd, Nat.reduceSub, Nat.reduceMul, Nat.reduceEqDiff, Nat.reduceBEq, Nat.reduceBNe, Nat.reduceLT, Nat.reduceLeDiff, Int.reduceNeg, Int.reduceAdd, Int.reduceSub, Int.reduceMul, Int.reduceEq, Int.reduceLT, Int.reduceLE, Int.reduceToNat, reduceIte, reduceCtorEq]
      refine callN.eq (ok141 d) (by simp only [go_sem, Nat.reduceAdd, Nat.reduceSub, Nat.reduceMul, Nat.reduceEqDiff, Nat.reduceBEq, Nat.reduceBNe, Nat.reduceLT, Nat.reduceLeDiff, Int.reduceNeg, Int.reduceAdd, Int.reduceSub, Int.reduceMul, Int.reduceEq, Int.reduceLT, Int.reduceLE, Int.reduceToNat, reduceIte, reduceCtorEq]) ?_
      simp only [go_sem, Nat.reduceAdd, Nat.reduceSub, Nat.reduceMul, Nat.reduceEqDiff, Nat.reduceBEq, Nat.reduceBNe, Nat.reduceLT, Nat.reduceLeDiff, Int.reduceNeg, Int.reduceAdd, Int.reduceSub, Int.reduceMul, Int.reduceEq, Int.reduceLT, Int.reduceLE, Int.reduceToNat, reduceIte, reduceCtorEq]
      simp only [go_sem, Nat.reduceAdd, Nat.reduceSub, Nat.reduceMul, Nat.reduceEqDiff, Nat.reduceBEq, Nat.reduceBNe, Nat.reduceLT, Nat.reduceLeDiff, Int.reduceNeg, Int.reduceAdd, Int.reduceSub, Int.reduceMul, Int.reduceEq, Int.reduceLT, Int.reduceLE, Int.reduceToNat, reduceIte, reduceCtorEq, e, hw]
      refine call_lend ?_
      simp only [go_sem, Nat.reduceAdd, Nat.reduceSub, Nat.reduceMul, Nat.reduceEqDiff, Nat.reduceBEq, Nat.reduceBNe, Nat.reduceLT, Nat.reduceLeDiff, Int.reduceNeg, Int.reduceAdd, Int.reduceSub, Int.reduceMul, Int.reduceEq, Int.reduceLT, Int.reduceLE, Int.reduceToNat, reduceIte, reduceCtorEq]
      refine callN.eq (ok35 (d.root.2.1 + 1) t) (by simp only [go_sem, Nat.reduceAdd, Nat.reduceSub, Nat.reduceMul, Nat.reduceEqDiff, Nat.reduceBEq, Nat.reduceBNe, Nat.reduceLT, Nat.reduceLeDiff, Int.reduceNeg, Int.reduceAdd, Int.reduceSub, Int.reduceMul, Int.reduceEq, Int.reduceLT, Int.reduceLE, Int.reduceToNat, reduceIte, reduceCtorEq]) ?_
      simp only [go_sem, Nat.reduceAdd, Nat.reduceSub, Nat.reduceMul, Nat.reduceEqDiff, Nat.reduceBEq, Nat.reduceBNe, Nat.reduceLT, Nat.reduceLeDiff, Int.reduceNeg, Int.reduceAdd, Int.reduceSub, Int.reduceMul, Int.reduceEq, Int.reduceLT, Int.reduceLE, Int.reduceToNat, reduceIte, reduceCtorEq]
      first | refine branch_ndec (fun h3 => ?_) (fun h3 => ?_) | refine branch_dec (fun h3 => ?_) (fun h3 => ?_) | refine branch_nbool (fun h3 => ?_) (fun h3 => ?_) | refine branch_split (fun h3 => ?_) (fun h3 => ?_)
      · simp only [go_sem, Nat.reduceAdd, Nat.reduceSub, Nat.reduceMul, Nat.reduceEqDiff, Nat.reduceBEq, Nat.reduceBNe, Nat.reduceLT, Nat.reduceLeDiff, Int.reduceNeg, Int.reduceAdd, Int.reduceSub, Int.reduceMul, Int.reduceEq, Int.reduceLT, Int.reduceLE, Int.reduceToNat, reduceIte, reduceCtorEq]
        exact ⟨fun h => h.2.2 h3, rfl, rfl⟩
      · have hm : d.may t := ⟨h1, by omega, h3⟩
        have hl := Dev.barrier_lay (t := t) h1 hm.2.1
        have hbs := (Dev.ok_small (Dev.barrier_ok h1)).1
        simp only [go_sem, Nat.reduceAdd, Nat.reduceSub, Nat.reduceMul, Nat.reduceEqDiff, Nat.reduceBEq, Nat.reduceBNe, Nat.reduceLT, Nat.reduceLeDiff, Int.reduceNeg, Int.reduceAdd, Int.reduceSub, Int.reduceMul, Int.reduceEq, Int.reduceLT, Int.reduceLE, Int.reduceToNat, reduceIte, reduceCtorEq]
        first | refine branch_ndec (fun h4 => ?_) (fun h4 => ?_) | refine branch_dec (fun h4 => ?_) (fun h4 => ?_) | refine branch_nbool (fun h4 => ?_) (fun h4 => ?_) | refine branch_split (fun h4 => ?_) (fun h4 => ?_)
        · have e5 : d.to = 1 := if_pos h4
          rw [e5] at hl
          simp only [go_sem, Nat.reduceAdd, Nat.reduceSub, Nat.reduceMul, Nat.reduceEqDiff, Nat.reduceBEq, Nat.reduceBNe, Nat.reduceLT, Nat.reduceLeDiff, Int.reduceNeg, Int.reduceAdd, Int.reduceSub, Int.reduceMul, Int.reduceEq, Int.reduceLT, Int.reduceLE, Int.reduceToNat, reduceIte, reduceCtorEq]
          refine call_lend ?_
          simp only [go_sem, Nat.reduceAdd, Nat.reduceSub, Nat.reduceMul, Nat.reduceEqDiff, Nat.reduceBEq, Nat.reduceBNe, Nat.reduceLT, Nat.reduceLeDiff, Int.reduceNeg, Int.reduceAdd, Int.reduceSub, Int.reduceMul, Int.reduceEq, Int.reduceLT, Int.reduceLE, Int.reduceToNat, reduceIte, reduceCtorEq]
          refine callN.eq (ok112 d hsm) (by simp only [go_sem, Nat.reduceAdd, Nat.reduceSub, Nat.reduceMul, Nat.reduceEqDiff, Nat.reduceBEq, Nat.reduceBNe, Nat.reduceLT, Nat.reduceLeDiff, Int.reduceNeg, Int.reduceAdd, Int.reduceSub, Int.reduceMul, Int.reduceEq, Int.reduceLT, Int.reduceLE, Int.reduceToNat, reduceIte, reduceCtorEq]) ?_
          simp only [go_sem, Nat.reduceAdd, Nat.reduceSub, Nat.reduceMul, Nat.reduceEqDiff, Nat.reduceBEq, Nat.reduceBNe, Nat.reduceLT, Nat.reduceLeDiff, Int.reduceNeg, Int.reduceAdd, Int.reduceSub, Int.reduceMul, Int.reduceEq, Int.reduceLT, Int.reduceLE, Int.reduceToNat, reduceIte, reduceCtorEq]
          have hs : d.slot t = slotS (d.root.2.1 + 1) t := rfl
          rw [← hs]
          refine call_lend ?_
          simp only [go_sem, Nat.reduceAdd, Nat.reduceSub, Nat.reduceMul, Nat.reduceEqDiff, Nat.reduceBEq, Nat.reduceBNe, Nat.reduceLT, Nat.reduceLeDiff, Int.reduceNeg, Int.reduceAdd, Int.reduceSub, Int.reduceMul, Int.reduceEq, Int.reduceLT, Int.reduceLE, Int.reduceToNat, reduceIte, reduceCtorEq]
          refine callN.eq (ok206 d.barrier hbs 1 (d.slot t)) (by simp only [go_sem, Nat.reduceAdd, Nat.reduceSub, Nat.reduceMul, Nat.reduceEqDiff, Nat.reduceBEq, Nat.reduceBNe, Nat.reduceLT, Nat.reduceLeDiff, Int.reduceNeg, Int.reduceAdd, Int.reduceSub, Int.reduceMul, Int.reduceEq, Int.reduceLT, Int.reduceLE, Int.reduceToNat, reduceIte, reduceCtorEq]) ?_
          simp only [go_sem, Nat.reduceAdd, Nat.reduceSub, Nat.reduceMul, Nat.reduceEqDiff, Nat.reduceBEq, Nat.reduceBNe, Nat.reduceLT, Nat.reduceLeDiff, Int.reduceNeg, Int.reduceAdd, Int.reduceSub, Int.reduceMul, Int.reduceEq, Int.reduceLT, Int.reduceLE, Int.reduceToNat, reduceIte, reduceCtorEq]
          simp only [go_sem, Nat.reduceAdd, Nat.reduceSub, Nat.reduceMul, Nat.reduceEqDiff, Nat.reduceBEq, Nat.reduceBNe, Nat.reduceLT, Nat.reduceLeDiff, Int.reduceNeg, Int.reduceAdd, Int.reduceSub, Int.reduceMul, Int.reduceEq, Int.reduceLT, Int.reduceLE, Int.reduceToNat, reduceIte, reduceCtorEq, hl]
          exact hm
        · have e5 : d.to = 0 := if_neg h4
          rw [e5] at hl
          simp only [go_sem, Nat.reduceAdd, Nat.reduceSub, Nat.reduceMul, Nat.reduceEqDiff, Nat.reduceBEq, Nat.reduceBNe, Nat.reduceLT, Nat.reduceLeDiff, Int.reduceNeg, Int.reduceAdd, Int.reduceSub, Int.reduceMul, Int.reduceEq, Int.reduceLT, Int.reduceLE, Int.reduceToNat, reduceIte, reduceCtorEq]
          refine call_lend ?_
          simp only [go_sem, Nat.reduceAdd, Nat.reduceSub, Nat.reduceMul, Nat.reduceEqDiff, Nat.reduceBEq, Nat.reduceBNe, Nat.reduceLT, Nat.reduceLeDiff, Int.reduceNeg, Int.reduceAdd, Int.reduceSub, Int.reduceMul, Int.reduceEq, Int.reduceLT, Int.reduceLE, Int.reduceToNat, reduceIte, reduceCtorEq]
          refine callN.eq (ok112 d hsm) (by simp only [go_sem, Nat.reduceAdd, Nat.reduceSub, Nat.reduceMul, Nat.reduceEqDiff, Nat.reduceBEq, Nat.reduceBNe, Nat.reduceLT, Nat.reduceLeDiff, Int.reduceNeg, Int.reduceAdd, Int.reduceSub, Int.reduceMul, Int.reduceEq, Int.reduceLT, Int.reduceLE, Int.reduceToNat, reduceIte, reduceCtorEq]) ?_
          simp only [go_sem, Nat.reduceAdd, Nat.reduceSub, Nat.reduceMul, Nat.reduceEqDiff, Nat.reduceBEq, Nat.reduceBNe, Nat.reduceLT, Nat.reduceLeDiff, Int.reduceNeg, Int.reduceAdd, Int.reduceSub, Int.reduceMul, Int.reduceEq, Int.reduceLT, Int.reduceLE, Int.reduceToNat, reduceIte, reduceCtorEq]
          have hs : d.slot t = slotS (d.root.2.1 + 1) t := rfl
          rw [← hs]
          refine call_lend ?_
          simp only [go_sem, Nat.reduceAdd, Nat.reduceSub, Nat.reduceMul, Nat.reduceEqDiff, Nat.reduceBEq, Nat.reduceBNe, Nat.reduceLT, Nat.reduceLeDiff, Int.reduceNeg, Int.reduceAdd, Int.reduceSub, Int.reduceMul, Int.reduceEq, Int.reduceLT, Int.reduceLE, Int.reduceToNat, reduceIte, reduceCtorEq]
          refine callN.eq (ok206 d.barrier hbs 0 (d.slot t)) (by simp only [go_sem, Nat.reduceAdd, Nat.reduceSub, Nat.reduceMul, Nat.reduceEqDiff, Nat.reduceBEq, Nat.reduceBNe, Nat.reduceLT, Nat.reduceLeDiff, Int.reduceNeg, Int.reduceAdd, Int.reduceSub, Int.reduceMul, Int.reduceEq, Int.reduceLT, Int.reduceLE, Int.reduceToNat, reduceIte, reduceCtorEq]) ?_
          simp only [go_sem, Nat.reduceAdd, Nat.reduceSub, Nat.reduceMul, Nat.reduceEqDiff, Nat.reduceBEq, Nat.reduceBNe, Nat.reduceLT, Nat.reduceLeDiff, Int.reduceNeg, Int.reduceAdd, Int.reduceSub, Int.reduceMul, Int.reduceEq, Int.reduceLT, Int.reduceLE, Int.reduceToNat, reduceIte, reduceCtorEq]
          simp only [go_sem, Nat.reduceAdd, Nat.reduceSub, Nat.reduceMul, Nat.reduceEqDiff, Nat.reduceBEq, Nat.reduceBNe, Nat.reduceLT, Nat.reduceLeDiff, Int.reduceNeg, Int.reduceAdd, Int.reduceSub, Int.reduceMul, Int.reduceEq, Int.reduceLT, Int.reduceLE, Int.reduceToNat, reduceIte, reduceCtorEq, hl]
          exact hm
  · simp only [go_sem, Nat.reduceAdd, Nat.reduceSub, Nat.reduceMul, Nat.reduceEqDiff, Nat.reduceBEq, Nat.reduceBNe, Nat.reduceLT, Nat.reduceLeDiff, Int.reduceNeg, Int.reduceAdd, Int.reduceSub, Int.reduceMul, Int.reduceEq, Int.reduceLT, Int.reduceLE, Int.reduceToNat, reduceIte, reduceCtorEq, h1]
    exact ⟨(fun h => by rw [h.1] at h1; cases h1), rfl, rfl⟩
theorem ok115 (d : Dev) (hd : d.ok = true) (t : ByteArray) : VCalls gz 115 [d.enc false, .lit (.string t)] none (fun y _ => (¬ d.may t ∧ y = .tup [d.enc false, .lit (.bool false)]) ∨ (d.may t ∧ y = .tup [(d.laid t).enc true, .lit (.bool true)])) := by
  refine VCalls.go (nt := 39) (keep := [0, 1, 2, 4, 5, 6, 7, 9, 10, 14, 27, 30]) (muts := []) (mvs := [12]) [] f115_at rfl (by kernel_rfl) rfl (by kernel_rfl) rfl (fun i h => by cases h) rfl ?_
  intro hok
  simp only [go_sem, Nat.reduceAdd, Nat.reduceSub, Nat.reduceMul, Nat.reduceEqDiff, Nat.reduceBEq, Nat.reduceBNe, Nat.reduceLT, Nat.reduceLeDiff, Int.reduceNeg, Int.reduceAdd, Int.reduceSub, Int.reduceMul, Int.reduceEq, Int.reduceLT, Int.reduceLE, Int.reduceToNat, reduceIte, reduceCtorEq] at hok
  simp only [Tryz.f115, Func.code, Option.getD_some]
  simp only [go_sem, Nat.reduceAdd, Nat.reduceSub, Nat.reduceMul, Nat.reduceEqDiff, Nat.reduceBEq, Nat.reduceBNe, Nat.reduceLT, Nat.reduceLeDiff, Int.reduceNeg, Int.reduceAdd, Int.reduceSub, Int.reduceMul, Int.reduceEq, Int.reduceLT, Int.reduceLE, Int.reduceToNat, reduceIte, reduceCtorEq]
  intro _
  first | refine branch_ndec (fun h2 => ?_) (fun h2 => ?_) | refine branch_dec (fun h2 => ?_) (fun h2 => ?_) | refine branch_nbool (fun h2 => ?_) (fun h2 => ?_) | refine branch_split (fun h2 => ?_) (fun h2 => ?_)
  · simp only [go_sem, Nat.reduceAdd, Nat.reduceSub, Nat.reduceMul, Nat.reduceEqDiff, Nat.reduceBEq, Nat.reduceBNe, Nat.reduceLT, Nat.reduceLeDiff, Int.reduceNeg, Int.reduceAdd, Int.reduceSub, Int.reduceMul, Int.reduceEq, Int.reduceLT, Int.reduceLE, Int.reduceToNat, reduceIte, reduceCtorEq]
    exact fun h => by have := h.2.1; omega
  · have hr := Dev.root_rng d
    have hw : IntKind.i64.wrap (d.root.2.1 + 1) = d.root.2.1 + 1 := wrap64 (by omega) (by omega)
    have hsm := (Dev.ok_small hd).1
    simp only [go_sem, Nat.reduceAdd, Nat.reduceSub, Nat.reduceMul, Nat.reduceEqDiff, Nat.reduceBEq, Nat.reduceBNe, Nat.reduceLT, Nat.reduceLeDiff, Int.reduceNeg, Int.reduceAdd, Int.reduceSub, Int.reduceMul, Int.reduceEq, Int.reduceLT, Int.reduceLE, Int.reduceToNat, reduceIte, reduceCtorEq]
    refine call_lend ?_
    simp only [go_sem, Nat.reduceAdd, Nat.reduceSub, Nat.reduceMul, Nat.reduceEqDiff, Nat.reduceBEq, Nat.reduceBNe, Nat.reduceLT, Nat.reduceLeDiff, Int.reduceNeg, Int.reduceAdd, Int.reduceSub, Int.reduceMul, Int.reduceEq, Int.reduceLT, Int.reduceLE, Int.reduceToNat, reduceIte, reduceCtorEq]
    refine callN.eq (ok131 d hd (by omega)) (by simp only [go_sem, Nat.reduceAdd, Nat.reduceSub, Nat.reduceMul, Nat.reduceEqDiff, Nat.reduceBEq, Nat.reduceBNe, Nat.reduceLT, Nat.reduceLeDiff, Int.reduceNeg, Int.reduceAdd, Int.reduceSub, Int.reduceMul, Int.reduceEq, Int.reduceLT, Int.reduceLE, Int.reduceToNat, reduceIte, reduceCtorEq]) ?_
    simp only [go_sem, Nat.reduceAdd, Nat.reduceSub, Nat.reduceMul, Nat.reduceEqDiff, Nat.reduceBEq, Nat.reduceBNe, Nat.reduceLT, Nat.reduceLeDiff, Int.reduceNeg, Int.reduceAdd, Int.reduceSub, Int.reduceMul, Int.reduceEq, Int.reduceLT, Int.reduceLE, Int.reduceToNat, reduceIte, reduceCtorEq]
    simp only [go_sem, Nat.reduceAdd, Nat.reduceSub, Nat.reduceMul, Nat.reduceEqDiff, Nat.reduceBEq, Nat.reduceBNe, Nat.reduceLT, Nat.reduceLeDiff, Int.reduceNeg, Int.reduceAdd, Int.reduceSub, Int.reduceMul, Int.reduceEq, Int.reduceLT, Int.reduceLE, Int.reduceToNat, reduceIte, reduceCtorEq, hw]
    refine call_lend ?_
    simp only [go_sem, Nat.reduceAdd, Nat.reduceSub, Nat.reduceMul, Nat.reduceEqDiff, Nat.reduceBEq, Nat.reduceBNe, Nat.reduceLT, Nat.reduceLeDiff, Int.reduceNeg, Int.reduceAdd, Int.reduceSub, Int.reduceMul, Int.reduceEq, Int.reduceLT, Int.reduceLE, Int.reduceToNat, reduceIte, reduceCtorEq]
    refine callN.eq (ok30 (d.root.2.1 + 1) t) (by simp only [go_sem, Nat.reduceAdd, Nat.reduceSub, Nat.reduceMul, Nat.reduceEqDiff, Nat.reduceBEq, Nat.reduceBNe, Nat.reduceLT, Nat.reduceLeDiff, Int.reduceNeg, Int.reduceAdd, Int.reduceSub, Int.reduceMul, Int.reduceEq, Int.reduceLT, Int.reduceLE, Int.reduceToNat, reduceIte, reduceCtorEq]) ?_
    simp only [go_sem, Nat.reduceAdd, Nat.reduceSub, Nat.reduceMul, Nat.reduceEqDiff, Nat.reduceBEq, Nat.reduceBNe, Nat.reduceLT, Nat.reduceLeDiff, Int.reduceNeg, Int.reduceAdd, Int.reduceSub, Int.reduceMul, Int.reduceEq, Int.reduceLT, Int.reduceLE, Int.reduceToNat, reduceIte, reduceCtorEq]
    first | refine branch_ndec (fun h3 => ?_) (fun h3 => ?_) | refine branch_dec (fun h3 => ?_) (fun h3 => ?_) | refine branch_nbool (fun h3 => ?_) (fun h3 => ?_) | refine branch_split (fun h3 => ?_) (fun h3 => ?_)
    · simp only [go_sem, Nat.reduceAdd, Nat.reduceSub, Nat.reduceMul, Nat.reduceEqDiff, Nat.reduceBEq, Nat.reduceBNe, Nat.reduceLT, Nat.reduceLeDiff, Int.reduceNeg, Int.reduceAdd, Int.reduceSub, Int.reduceMul, Int.reduceEq, Int.reduceLT, Int.reduceLE, Int.reduceToNat, reduceIte, reduceCtorEq]
      exact fun h => h.2.2 h3
    · have hm : d.may t := ⟨hd, by omega, h3⟩
      have hs : d.slot t = slotS (d.root.2.1 + 1) t := rfl
      have hb := Dev.barrier_eq hd
      have hl : (d.laid t).late = [⟨d.to, d.slot t⟩] := rfl
      have hl2 : (d.laid t).secs = (d.settled fun _ => true).secs := by rw [← hb]; rfl
      rw [← hs]
      simp only [go_sem, Nat.reduceAdd, Nat.reduceSub, Nat.reduceMul, Nat.reduceEqDiff, Nat.reduceBEq, Nat.reduceBNe, Nat.reduceLT, Nat.reduceLeDiff, Int.reduceNeg, Int.reduceAdd, Int.reduceSub, Int.reduceMul, Int.reduceEq, Int.reduceLT, Int.reduceLE, Int.reduceToNat, reduceIte, reduceCtorEq]
      first | refine branch_ndec (fun h4 => ?_) (fun h4 => ?_) | refine branch_dec (fun h4 => ?_) (fun h4 => ?_) | refine branch_nbool (fun h4 => ?_) (fun h4 => ?_) | refine branch_split (fun h4 => ?_) (fun h4 => ?_)
      · have e5 : d.to = 1 := if_pos h4
        simp only [go_sem, Nat.reduceAdd, Nat.reduceSub, Nat.reduceMul, Nat.reduceEqDiff, Nat.reduceBEq, Nat.reduceBNe, Nat.reduceLT, Nat.reduceLeDiff, Int.reduceNeg, Int.reduceAdd, Int.reduceSub, Int.reduceMul, Int.reduceEq, Int.reduceLT, Int.reduceLE, Int.reduceToNat, reduceIte, reduceCtorEq]
        refine call_lend ?_
        simp only [go_sem, Nat.reduceAdd, Nat.reduceSub, Nat.reduceMul, Nat.reduceEqDiff, Nat.reduceBEq, Nat.reduceBNe, Nat.reduceLT, Nat.reduceLeDiff, Int.reduceNeg, Int.reduceAdd, Int.reduceSub, Int.reduceMul, Int.reduceEq, Int.reduceLT, Int.reduceLE, Int.reduceToNat, reduceIte, reduceCtorEq]
        refine callN.eq (ok117 d hsm hd) (by simp only [go_sem, Nat.reduceAdd, Nat.reduceSub, Nat.reduceMul, Nat.reduceEqDiff, Nat.reduceBEq, Nat.reduceBNe, Nat.reduceLT, Nat.reduceLeDiff, Int.reduceNeg, Int.reduceAdd, Int.reduceSub, Int.reduceMul, Int.reduceEq, Int.reduceLT, Int.reduceLE, Int.reduceToNat, reduceIte, reduceCtorEq]) ?_
        simp only [go_sem, Nat.reduceAdd, Nat.reduceSub, Nat.reduceMul, Nat.reduceEqDiff, Nat.reduceBEq, Nat.reduceBNe, Nat.reduceLT, Nat.reduceLeDiff, Int.reduceNeg, Int.reduceAdd, Int.reduceSub, Int.reduceMul, Int.reduceEq, Int.reduceLT, Int.reduceLE, Int.reduceToNat, reduceIte, reduceCtorEq]
        rw [hl, hl2, e5]
        trivial
      · have e5 : d.to = 0 := if_neg h4
        simp only [go_sem, Nat.reduceAdd, Nat.reduceSub, Nat.reduceMul, Nat.reduceEqDiff, Nat.reduceBEq, Nat.reduceBNe, Nat.reduceLT, Nat.reduceLeDiff, Int.reduceNeg, Int.reduceAdd, Int.reduceSub, Int.reduceMul, Int.reduceEq, Int.reduceLT, Int.reduceLE, Int.reduceToNat, reduceIte, reduceCtorEq]
        refine call_lend ?_
        simp only [go_sem, Nat.reduceAdd, Nat.reduceSub, Nat.reduceMul, Nat.reduceEqDiff, Nat.reduceBEq, Nat.reduceBNe, Nat.reduceLT, Nat.reduceLeDiff, Int.reduceNeg, Int.reduceAdd, Int.reduceSub, Int.reduceMul, Int.reduceEq, Int.reduceLT, Int.reduceLE, Int.reduceToNat, reduceIte, reduceCtorEq]
        refine callN.eq (ok117 d hsm hd) (by simp only [go_sem, Nat.reduceAdd, Nat.reduceSub, Nat.reduceMul, Nat.reduceEqDiff, Nat.reduceBEq, Nat.reduceBNe, Nat.reduceLT, Nat.reduceLeDiff, Int.reduceNeg, Int.reduceAdd, Int.reduceSub, Int.reduceMul, Int.reduceEq, Int.reduceLT, Int.reduceLE, Int.reduceToNat, reduceIte, reduceCtorEq]) ?_
        simp only [go_sem, Nat.reduceAdd, Nat.reduceSub, Nat.reduceMul, Nat.reduceEqDiff, Nat.reduceBEq, Nat.reduceBNe, Nat.reduceLT, Nat.reduceLeDiff, Int.reduceNeg, Int.reduceAdd, Int.reduceSub, Int.reduceMul, Int.reduceEq, Int.reduceLT, Int.reduceLE, Int.reduceToNat, reduceIte, reduceCtorEq]
        rw [hl, hl2, e5]
        trivial
end Go.VS

set_option linter.unusedSimpArgs false
set_option linter.unusedVariables false
open Go.Proofs
set_option maxRecDepth 20000
namespace Go.VS
theorem f17_at : gz.P.funcs[17]? = some Tryz.f17 := by
  have h : Tryz.prog.funcs[17]? = some Tryz.f17 := by kernel_rfl
  exact h
theorem f19_at : gz.P.funcs[19]? = some Tryz.f19 := by
  have h : Tryz.prog.funcs[19]? = some Tryz.f19 := by kernel_rfl
  exact h
theorem Dev.laid_ok {d : Dev} {t : ByteArray} (h : d.may t) : (d.laid t).ok = true := by
  have h1 := Dev.lay_ok (Dev.barrier_ok h.1) d.to (d.slot t)
  rw [Dev.barrier_lay h.1 h.2.1] at h1
  exact h1
noncomputable def Dev.sw (d : Dev) (t : ByteArray) : Dev × Bool := open Classical in if d.ok = true then (if d.may t then ((d.laid t).barrier, true) else (d, false)) else (Dev.none, false)
theorem Dev.sw_may {d : Dev} {t : ByteArray} (h : d.may t) : d.sw t = ((d.laid t).barrier, true) := by
  unfold Dev.sw
  rw [if_pos h.1, if_pos h]
theorem Dev.sw_not {d : Dev} {t : ByteArray} (h1 : d.ok = true) (h : ¬ d.may t) : d.sw t = (d, false) := by
  unfold Dev.sw
  rw [if_pos h1, if_neg h]
theorem Dev.sw_no {d : Dev} {t : ByteArray} (h1 : d.ok = false) : d.sw t = (Dev.none, false) := by
  unfold Dev.sw
  rw [if_neg (by rw [h1]; simp)]
theorem VCalls.mono {g : Sys} {f : FuncId} {as1 : List AVal} {m : Option Nat} {Post Post' : AVal → AVal → Prop} (h : VCalls g f as1 m Post) (hp : ∀ y x', Post y x' → Post' y x') : VCalls g f as1 m Post' := fun w S o args h1 h2 h3 h4 =>
  (h w S o args h1 h2 h3 h4).mono fun v w' ⟨y, x', S', o', a1, a2⟩ => ⟨y, x', S', o', hp _ _ a1, a2⟩
theorem ok110n (d : Dev) (t : ByteArray) (h : ¬ d.may t) : VCalls gz 110 [d.enc false, .lit (.string t)] none (fun y _ => y = .tup [Dev.none.enc true, .lit (.bool false)]) :=
  (ok110 d t).mono fun y x' hp => hp.elim (fun h1 => h1.2) fun h1 => absurd h1.1 h
theorem ok110y (d : Dev) (t : ByteArray) (h : d.may t) : VCalls gz 110 [d.enc false, .lit (.string t)] none (fun y _ => y = .tup [(d.laid t).enc true, .lit (.bool true)]) :=
  (ok110 d t).mono fun y x' hp => hp.elim (fun h1 => absurd h h1.1) fun h1 => h1.2
theorem ok115n (d : Dev) (hd : d.ok = true) (t : ByteArray) (h : ¬ d.may t) : VCalls gz 115 [d.enc false, .lit (.string t)] none (fun y _ => y = .tup [d.enc false, .lit (.bool false)]) :=
  (ok115 d hd t).mono fun y x' hp => hp.elim (fun h1 => h1.2) fun h1 => absurd h1.1 h
theorem ok115y (d : Dev) (hd : d.ok = true) (t : ByteArray) (h : d.may t) : VCalls gz 115 [d.enc false, .lit (.string t)] none (fun y _ => y = .tup [(d.laid t).enc true, .lit (.bool true)]) :=
  (ok115 d hd t).mono fun y x' hp => hp.elim (fun h1 => absurd h h1.1) fun h1 => h1.2
theorem ok17 (d : Dev) (t : ByteArray) : VCalls gz 17 [d.enc false, .lit (.string t)] none (fun y _ => y = .tup [(d.sw t).1.enc true, .lit (.bool (d.sw t).2)]) := by
  refine VCalls.go (nt := 24) (keep := [0, 1, 2, 4, 5, 6, 7, 10, 19]) (muts := []) (mvs := []) [] f17_at rfl (by kernel_rfl) rfl (by kernel_rfl) rfl (fun i h => by cases h) rfl ?_
  intro hok
  simp only [go_sem, Nat.reduceAdd, Nat.reduceSub, Nat.reduceMul, Nat.reduceEqDiff, Nat.reduceBEq, Nat.reduceBNe, Nat.reduceLT, Nat.reduceLeDiff, Int.reduceNeg, Int.reduceAdd, Int.reduceSub, Int.reduceMul, Int.reduceEq, Int.reduceLT, Int.reduceLE, Int.reduceToNat, reduceIte, reduceCtorEq] at hok
  simp only [Tryz.f17, Func.code, Option.getD_some]
  simp only [go_sem, Nat.reduceAdd, Nat.reduceSub, Nat.reduceMul, Nat.reduceEqDiff, Nat.reduceBEq, Nat.reduceBNe, Nat.reduceLT, Nat.reduceLeDiff, Int.reduceNeg, Int.reduceAdd, Int.reduceSub, Int.reduceMul, Int.reduceEq, Int.reduceLT, Int.reduceLE, Int.reduceToNat, reduceIte, reduceCtorEq]
  refine call_lend ?_
  simp only [go_sem, Nat.reduceAdd, Nat.reduceSub, Nat.reduceMul, Nat.reduceEqDiff, Nat.reduceBEq, Nat.reduceBNe, Nat.reduceLT, Nat.reduceLeDiff, Int.reduceNeg, Int.reduceAdd, Int.reduceSub, Int.reduceMul, Int.reduceEq, Int.reduceLT, Int.reduceLE, Int.reduceToNat, reduceIte, reduceCtorEq]
  refine callN.eq (ok109 d) (by simp only [go_sem, Nat.reduceAdd, Nat.reduceSub, Nat.reduceMul, Nat.reduceEqDiff, Nat.reduceBEq, Nat.reduceBNe, Nat.reduceLT, Nat.reduceLeDiff, Int.reduceNeg, Int.reduceAdd, Int.reduceSub, Int.reduceMul, Int.reduceEq, Int.reduceLT, Int.reduceLE, Int.reduceToNat, reduceIte, reduceCtorEq]) ?_
  simp only [go_sem, Nat.reduceAdd, Nat.reduceSub, Nat.reduceMul, Nat.reduceEqDiff, Nat.reduceBEq, Nat.reduceBNe, Nat.reduceLT, Nat.reduceLeDiff, Int.reduceNeg, Int.reduceAdd, Int.reduceSub, Int.reduceMul, Int.reduceEq, Int.reduceLT, Int.reduceLE, Int.reduceToNat, reduceIte, reduceCtorEq]
  first | refine branch_ndec (fun h1 => ?_) (fun h1 => ?_) | refine branch_dec (fun h1 => ?_) (fun h1 => ?_) | refine branch_nbool (fun h1 => ?_) (fun h1 => ?_) | refine branch_split (fun h1 => ?_) (fun h1 => ?_)
  · have hsm := (Dev.ok_small h1).1
    simp only [go_sem, Nat.reduceAdd, Nat.reduceSub, Nat.reduceMul, Nat.reduceEqDiff, Nat.reduceBEq, Nat.reduceBNe, Nat.reduceLT, Nat.reduceLeDiff, Int.reduceNeg, Int.reduceAdd, Int.reduceSub, Int.reduceMul, Int.reduceEq, Int.reduceLT, Int.reduceLE, Int.reduceToNat, reduceIte, reduceCtorEq]
    by_cases hm : d.may t
    rotate_left
    · have e := Dev.sw_not h1 hm
      refine call_lend ?_
      simp only [go_sem, Nat.reduceAdd, Nat.reduceSub, Nat.reduceMul, Nat.reduceEqDiff, Nat.reduceBEq, Nat.reduceBNe, Nat.reduceLT, Nat.reduceLeDiff, Int.reduceNeg, Int.reduceAdd, Int.reduceSub, Int.reduceMul, Int.reduceEq, Int.reduceLT, Int.reduceLE, Int.reduceToNat, reduceIte, reduceCtorEq]
      refine callN.eq (ok110n d t hm) (by simp only [go_sem, Nat.reduceAdd, Nat.reduceSub, Nat.reduceMul, Nat.reduceEqDiff, Nat.reduceBEq, Nat.reduceBNe, Nat.reduceLT, Nat.reduceLeDiff, Int.reduceNeg, Int.reduceAdd, Int.reduceSub, Int.reduceMul, Int.reduceEq, Int.reduceLT, Int.reduceLE, Int.reduceToNat, reduceIte, reduceCtorEq]) ?_
      simp only [go_sem, Nat.reduceAdd, Nat.reduceSub, Nat.reduceMul, Nat.reduceEqDiff, Nat.reduceBEq, Nat.reduceBNe, Nat.reduceLT, Nat.reduceLeDiff, Int.reduceNeg, Int.reduceAdd, Int.reduceSub, Int.reduceMul, Int.reduceEq, Int.reduceLT, Int.reduceLE, Int.reduceToNat, reduceIte, reduceCtorEq]
      simp only [go_sem, Nat.reduceAdd, Nat.reduceSub, Nat.reduceMul, Nat.reduceEqDiff, Nat.reduceBEq, Nat.reduceBNe, Nat.reduceLT, Nat.reduceLeDiff, Int.reduceNeg, Int.reduceAdd, Int.reduceSub, Int.reduceMul, Int.reduceEq, Int.reduceLT, Int.reduceLE, Int.reduceToNat, reduceIte, reduceCtorEq, e]
      refine call_lend ?_
      simp only [go_sem, Nat.reduceAdd, Nat.reduceSub, Nat.reduceMul, Nat.reduceEqDiff, Nat.reduceBEq, Nat.reduceBNe, Nat.reduceLT, Nat.reduceLeDiff, Int.reduceNeg, Int.reduceAdd, Int.reduceSub, Int.reduceMul, Int.reduceEq, Int.reduceLT, Int.reduceLE, Int.reduceToNat, reduceIte, reduceCtorEq]
      refine callN.eq (ok111 d hsm) (by simp only [go_sem, Nat.reduceAdd, Nat.reduceSub, Nat.reduceMul, Nat.reduceEqDiff, Nat.reduceBEq, Nat.reduceBNe, Nat.reduceLT, Nat.reduceLeDiff, Int.reduceNeg, Int.reduceAdd, Int.reduceSub, Int.reduceMul, Int.reduceEq, Int.reduceLT, Int.reduceLE, Int.reduceToNat, reduceIte, reduceCtorEq]) ?_
      simp only [go_sem, Nat.reduceAdd, Nat.reduceSub, Nat.reduceMul, Nat.reduceEqDiff, Nat.reduceBEq, Nat.reduceBNe, Nat.reduceLT, Nat.reduceLeDiff, Int.reduceNeg, Int.reduceAdd, Int.reduceSub, Int.reduceMul, Int.reduceEq, Int.reduceLT, Int.reduceLE, Int.reduceToNat, reduceIte, reduceCtorEq]
    · have e := Dev.sw_may hm
      have hs2 := (Dev.ok_small (Dev.laid_ok hm)).1
      refine call_lend ?_
      simp only [go_sem, Nat.reduceAdd, Nat.reduceSub, Nat.reduceMul, Nat.reduceEqDiff, Nat.reduceBEq, Nat.reduceBNe, Nat.reduceLT, Nat.reduceLeDiff, Int.reduceNeg, Int.reduceAdd, Int.reduceSub, Int.reduceMul, Int.reduceEq, Int.reduceLT, Int.reduceLE, Int.reduceToNat, reduceIte, reduceCtorEq]
      refine callN.eq (ok110y d t hm) (by simp only [go_sem, Nat.reduceAdd, Nat.reduceSub, Nat.reduceMul, Nat.reduceEqDiff, Nat.reduceBEq, Nat.reduceBNe, Nat.reduceLT, Nat.reduceLeDiff, Int.reduceNeg, Int.reduceAdd, Int.reduceSub, Int.reduceMul, Int.reduceEq, Int.reduceLT, Int.reduceLE, Int.reduceToNat, reduceIte, reduceCtorEq]) ?_
      simp only [go_sem, Nat.reduceAdd, Nat.reduceSub, Nat.reduceMul, Nat.reduceEqDiff, Nat.reduceBEq, Nat.reduceBNe, Nat.reduceLT, Nat.reduceLeDiff, Int.reduceNeg, Int.reduceAdd, Int.reduceSub, Int.reduceMul, Int.reduceEq, Int.reduceLT, Int.reduceLE, Int.reduceToNat, reduceIte, reduceCtorEq]
      simp only [go_sem, Nat.reduceAdd, Nat.reduceSub, Nat.reduceMul, Nat.reduceEqDiff, Nat.reduceBEq, Nat.reduceBNe, Nat.reduceLT, Nat.reduceLeDiff, Int.reduceNeg, Int.reduceAdd, Int.reduceSub, Int.reduceMul, Int.reduceEq, Int.reduceLT, Int.reduceLE, Int.reduceToNat, reduceIte, reduceCtorEq, e]
      refine call_lend ?_
      simp only [go_sem, Nat.reduceAdd, Nat.reduceSub, Nat.reduceMul, Nat.reduceEqDiff, Nat.reduceBEq, Nat.reduceBNe, Nat.reduceLT, Nat.reduceLeDiff, Int.reduceNeg, Int.reduceAdd, Int.reduceSub, Int.reduceMul, Int.reduceEq, Int.reduceLT, Int.reduceLE, Int.reduceToNat, reduceIte, reduceCtorEq]
      refine callN.eq (ok112 (d.laid t) hs2) (by simp only [go_sem, Nat.reduceAdd, Nat.reduceSub, Nat.reduceMul, Nat.reduceEqDiff, Nat.reduceBEq, Nat.reduceBNe, Nat.reduceLT, Nat.reduceLeDiff, Int.reduceNeg, Int.reduceAdd, Int.reduceSub, Int.reduceMul, Int.reduceEq, Int.reduceLT, Int.reduceLE, Int.reduceToNat, reduceIte, reduceCtorEq]) ?_
      simp only [go_sem, Nat.reduceAdd, Nat.reduceSub, Nat.reduceMul, Nat.reduceEqDiff, Nat.reduceBEq, Nat.reduceBNe, Nat.reduceLT, Nat.reduceLeDiff, Int.reduceNeg, Int.reduceAdd, Int.reduceSub, Int.reduceMul, Int.reduceEq, Int.reduceLT, Int.reduceLE, Int.reduceToNat, reduceIte, reduceCtorEq]
  · have e := Dev.sw_no (t := t) h1
    simp only [go_sem, Nat.reduceAdd, Nat.reduceSub, Nat.reduceMul, Nat.reduceEqDiff, Nat.reduceBEq, Nat.reduceBNe, Nat.reduceLT, Nat.reduceLeDiff, Int.reduceNeg, Int.reduceAdd, Int.reduceSub, Int.reduceMul, Int.reduceEq, Int.reduceLT, Int.reduceLE, Int.reduceToNat, reduceIte, reduceCtorEq, e]
    trivial
theorem ok19 (d : Dev) (t : ByteArray) : VCalls gz 19 [d.enc false, .lit (.string t)] none (fun y _ => y = .tup [(d.sw t).1.enc true, .lit (.bool (d.sw t).2)]) := by
  refine VCalls.go (nt := 24) (keep := [0, 1, 2, 4, 5, 6, 7, 10, 19]) (muts := []) (mvs := []) [] f19_at rfl (by kernel_rfl) rfl (by kernel_rfl) rfl (fun i h => by cases h) rfl ?_
  intro hok
  simp only [go_sem, Nat.reduceAdd, Nat.reduceSub, Nat.reduceMul, Nat.reduceEqDiff, Nat.reduceBEq, Nat.reduceBNe, Nat.reduceLT, Nat.reduceLeDiff, Int.reduceNeg, Int.reduceAdd, Int.reduceSub, Int.reduceMul, Int.reduceEq, Int.reduceLT, Int.reduceLE, Int.reduceToNat, reduceIte, reduceCtorEq] at hok
  simp only [Tryz.f19, Func.code, Option.getD_some]
  simp only [go_sem, Nat.reduceAdd, Nat.reduceSub, Nat.reduceMul, Nat.reduceEqDiff, Nat.reduceBEq, Nat.reduceBNe, Nat.reduceLT, Nat.reduceLeDiff, Int.reduceNeg, Int.reduceAdd, Int.reduceSub, Int.reduceMul, Int.reduceEq, Int.reduceLT, Int.reduceLE, Int.reduceToNat, reduceIte, reduceCtorEq]
  refine call_lend ?_
  simp only [go_sem, Nat.reduceAdd, Nat.reduceSub, Nat.reduceMul, Nat.reduceEqDiff, Nat.reduceBEq, Nat.reduceBNe, Nat.reduceLT, Nat.reduceLeDiff, Int.reduceNeg, Int.reduceAdd, Int.reduceSub, Int.reduceMul, Int.reduceEq, Int.reduceLT, Int.reduceLE, Int.reduceToNat, reduceIte, reduceCtorEq]
  refine callN.eq (ok38 d) (by simp only [go_sem, Nat.reduceAdd, Nat.reduceSub, Nat.reduceMul, Nat.reduceEqDiff, Nat.reduceBEq, Nat.reduceBNe, Nat.reduceLT, Nat.reduceLeDiff, Int.reduceNeg, Int.reduceAdd, Int.reduceSub, Int.reduceMul, Int.reduceEq, Int.reduceLT, Int.reduceLE, Int.reduceToNat, reduceIte, reduceCtorEq]) ?_
  simp only [go_sem, Nat.reduceAdd, Nat.reduceSub, Nat.reduceMul, Nat.reduceEqDiff, Nat.reduceBEq, Nat.reduceBNe, Nat.reduceLT, Nat.reduceLeDiff, Int.reduceNeg, Int.reduceAdd, Int.reduceSub, Int.reduceMul, Int.reduceEq, Int.reduceLT, Int.reduceLE, Int.reduceToNat, reduceIte, reduceCtorEq]
  first | refine branch_ndec (fun h1 => ?_) (fun h1 => ?_) | refine branch_dec (fun h1 => ?_) (fun h1 => ?_) | refine branch_nbool (fun h1 => ?_) (fun h1 => ?_) | refine branch_split (fun h1 => ?_) (fun h1 => ?_)
  · have hsm := (Dev.ok_small h1).1
    simp only [go_sem, Nat.reduceAdd, Nat.reduceSub, Nat.reduceMul, Nat.reduceEqDiff, Nat.reduceBEq, Nat.reduceBNe, Nat.reduceLT, Nat.reduceLeDiff, Int.reduceNeg, Int.reduceAdd, Int.reduceSub, Int.reduceMul, Int.reduceEq, Int.reduceLT, Int.reduceLE, Int.reduceToNat, reduceIte, reduceCtorEq]
    by_cases hm : d.may t
    rotate_left
    · have e := Dev.sw_not h1 hm
      refine call_share ?_
      simp only [go_sem, Nat.reduceAdd, Nat.reduceSub, Nat.reduceMul, Nat.reduceEqDiff, Nat.reduceBEq, Nat.reduceBNe, Nat.reduceLT, Nat.reduceLeDiff, Int.reduceNeg, Int.reduceAdd, Int.reduceSub, Int.reduceMul, Int.reduceEq, Int.reduceLT, Int.reduceLE, Int.reduceToNat, reduceIte, reduceCtorEq]
      refine callS.eq (ok115n d h1 t hm) ?_
      simp only [go_sem, Nat.reduceAdd, Nat.reduceSub, Nat.reduceMul, Nat.reduceEqDiff, Nat.reduceBEq, Nat.reduceBNe, Nat.reduceLT, Nat.reduceLeDiff, Int.reduceNeg, Int.reduceAdd, Int.reduceSub, Int.reduceMul, Int.reduceEq, Int.reduceLT, Int.reduceLE, Int.reduceToNat, reduceIte, reduceCtorEq]
      simp only [go_sem, Nat.reduceAdd, Nat.reduceSub, Nat.reduceMul, Nat.reduceEqDiff, Nat.reduceBEq, Nat.reduceBNe, Nat.reduceLT, Nat.reduceLeDiff, Int.reduceNeg, Int.reduceAdd, Int.reduceSub, Int.reduceMul, Int.reduceEq, Int.reduceLT, Int.reduceLE, Int.reduceToNat, reduceIte, reduceCtorEq, e]
      refine call_lend ?_
      simp only [go_sem, Nat.reduceAdd, Nat.reduceSub, Nat.reduceMul, Nat.reduceEqDiff, Nat.reduceBEq, Nat.reduceBNe, Nat.reduceLT, Nat.reduceLeDiff, Int.reduceNeg, Int.reduceAdd, Int.reduceSub, Int.reduceMul, Int.reduceEq, Int.reduceLT, Int.reduceLE, Int.reduceToNat, reduceIte, reduceCtorEq]
      refine callN.eq (ok116 d hsm) (by simp only [go_sem, Nat.reduceAdd, Nat.reduceSub, Nat.reduceMul, Nat.reduceEqDiff, Nat.reduceBEq, Nat.reduceBNe, Nat.reduceLT, Nat.reduceLeDiff, Int.reduceNeg, Int.reduceAdd, Int.reduceSub, Int.reduceMul, Int.reduceEq, Int.reduceLT, Int.reduceLE, Int.reduceToNat, reduceIte, reduceCtorEq]) ?_
      simp only [go_sem, Nat.reduceAdd, Nat.reduceSub, Nat.reduceMul, Nat.reduceEqDiff, Nat.reduceBEq, Nat.reduceBNe, Nat.reduceLT, Nat.reduceLeDiff, Int.reduceNeg, Int.reduceAdd, Int.reduceSub, Int.reduceMul, Int.reduceEq, Int.reduceLT, Int.reduceLE, Int.reduceToNat, reduceIte, reduceCtorEq]
    · have e := Dev.sw_may hm
      have hs2 := (Dev.ok_small (Dev.laid_ok hm)).1
      have e2 := Dev.barrier_eq (Dev.laid_ok hm)
      refine call_lend ?_
      simp only [go_sem, Nat.reduceAdd, Nat.reduceSub, Nat.reduceMul, Nat.reduceEqDiff, Nat.reduceBEq, Nat.reduceBNe, Nat.reduceLT, Nat.reduceLeDiff, Int.reduceNeg, Int.reduceAdd, Int.reduceSub, Int.reduceMul, Int.reduceEq, Int.reduceLT, Int.reduceLE, Int.reduceToNat, reduceIte, reduceCtorEq]
      refine callN.eq (ok115y d h1 t hm) (by simp only [go_sem, Nat.reduceAdd, Nat.reduceSub, Nat.reduceMul, Nat.reduceEqDiff, Nat.reduceBEq, Nat.reduceBNe, Nat.reduceLT, Nat.reduceLeDiff, Int.reduceNeg, Int.reduceAdd, Int.reduceSub, Int.reduceMul, Int.reduceEq, Int.reduceLT, Int.reduceLE, Int.reduceToNat, reduceIte, reduceCtorEq]) ?_
      simp only [go_sem, Nat.reduceAdd, Nat.reduceSub, Nat.reduceMul, Nat.reduceEqDiff, Nat.reduceBEq, Nat.reduceBNe, Nat.reduceLT, Nat.reduceLeDiff, Int.reduceNeg, Int.reduceAdd, Int.reduceSub, Int.reduceMul, Int.reduceEq, Int.reduceLT, Int.reduceLE, Int.reduceToNat, reduceIte, reduceCtorEq]
      simp only [go_sem, Nat.reduceAdd, Nat.reduceSub, Nat.reduceMul, Nat.reduceEqDiff, Nat.reduceBEq, Nat.reduceBNe, Nat.reduceLT, Nat.reduceLeDiff, Int.reduceNeg, Int.reduceAdd, Int.reduceSub, Int.reduceMul, Int.reduceEq, Int.reduceLT, Int.reduceLE, Int.reduceToNat, reduceIte, reduceCtorEq, e]
      refine call_lend ?_
      simp only [go_sem, Nat.reduceAdd, Nat.reduceSub, Nat.reduceMul, Nat.reduceEqDiff, Nat.reduceBEq, Nat.reduceBNe, Nat.reduceLT, Nat.reduceLeDiff, Int.reduceNeg, Int.reduceAdd, Int.reduceSub, Int.reduceMul, Int.reduceEq, Int.reduceLT, Int.reduceLE, Int.reduceToNat, reduceIte, reduceCtorEq]
      refine callN.eq (ok117 (d.laid t) hs2 (Dev.laid_ok hm)) (by simp only [go_sem, Nat.reduceAdd, Nat.reduceSub, Nat.reduceMul, Nat.reduceEqDiff, Nat.reduceBEq, Nat.reduceBNe, Nat.reduceLT, Nat.reduceLeDiff, Int.reduceNeg, Int.reduceAdd, Int.reduceSub, Int.reduceMul, Int.reduceEq, Int.reduceLT, Int.reduceLE, Int.reduceToNat, reduceIte, reduceCtorEq]) ?_
      simp only [go_sem, Nat.reduceAdd, Nat.reduceSub, Nat.reduceMul, Nat.reduceEqDiff, Nat.reduceBEq, Nat.reduceBNe, Nat.reduceLT, Nat.reduceLeDiff, Int.reduceNeg, Int.reduceAdd, Int.reduceSub, Int.reduceMul, Int.reduceEq, Int.reduceLT, Int.reduceLE, Int.reduceToNat, reduceIte, reduceCtorEq]
      rw [e2]
      trivial
  · have e := Dev.sw_no (t := t) h1
    simp only [go_sem, Nat.reduceAdd, Nat.reduceSub, Nat.reduceMul, Nat.reduceEqDiff, Nat.reduceBEq, Nat.reduceBNe, Nat.reduceLT, Nat.reduceLeDiff, Int.reduceNeg, Int.reduceAdd, Int.reduceSub, Int.reduceMul, Int.reduceEq, Int.reduceLT, Int.reduceLE, Int.reduceToNat, reduceIte, reduceCtorEq, e]
    trivial
end Go.VS
