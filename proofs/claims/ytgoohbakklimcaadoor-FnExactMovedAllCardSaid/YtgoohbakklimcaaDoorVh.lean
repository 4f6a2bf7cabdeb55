/- VS: functions by the machine. -/
import Derived.Test.YtgoohbakklimcaaDoorVg
import Derived.Test.YtgoohbakklimcaaDoorVn
set_option linter.unusedSimpArgs false
set_option linter.unusedVariables false
open Go.Proofs
set_option maxRecDepth 20000
namespace Go.VS
theorem f49_at : gz.P.funcs[49]? = some Tryd.f49 := by
  have h : Tryd.prog.funcs[49]? = some Tryd.f49 := by kernel_rfl
  exact h
theorem pow_nDigits_le (u : Nat) : 1 ≤ u → 10 ^ (Lib.nDigits u - 1) ≤ u := by
  induction u using Nat.strongRecOn with
  | _ u ih =>
    intro h1
    by_cases h : u < 10
    · rw [Lib.nDigits_small h]; simpa using h1
    · have h2 := ih (u / 10) (by omega) (by omega)
      have h3 := Lib.nDigits_pos (u / 10)
      rw [Lib.nDigits_big h]
      have e : Lib.nDigits (u / 10) + 1 - 1 = (Lib.nDigits (u / 10) - 1) + 1 := by omega
      rw [e, Nat.pow_succ]
      omega
/-- a text that is a number written out -/
structure Num (k : Nat) (s : ByteArray) : Prop where
  sz : 1 ≤ s.size ∧ s.size ≤ 10
  at' : ∀ j, j < s.size → (s.data.toList.getD j 0).toNat = 48 + k / 10 ^ (s.size - 1 - j) % 10
  hd : 1 < s.size → k / 10 ^ (s.size - 1) % 10 ≠ 0
  all : k / 10 ^ s.size = 0
theorem itoaB_num {k : Nat} (h0 : 0 ≤ k) (h2 : k < 10000000000) : Num k (itoaB k) := by
  have hsz : (itoaB k).size = Lib.nDigits k := by
    rw [bsz]
    show ((Lib.itoa k).toArray.toList).length = _
    rw [Lib.itoa_nonneg, List.toList_toArray, Lib.decDigits_length]
  have p1 := Lib.nDigits_pos k
  have p2 := Lib.lt_pow_nDigits k
  have p0 : k = 0 → Lib.nDigits k = 1 := fun h => by rw [h, Lib.nDigits_small (by omega)]
  have p3 : 1 ≤ k → 10 ^ (Lib.nDigits k - 1) ≤ k := fun h1 => pow_nDigits_le k h1
  have p4 : Lib.nDigits k ≤ 10 := by
    rcases Nat.eq_zero_or_pos k with hk | hk
    · rw [p0 hk]; decide
    have p3 := p3 hk
    refine Nat.le_of_not_lt fun h => ?_
    have : 10 ^ 10 ≤ 10 ^ (Lib.nDigits k - 1) := Nat.pow_le_pow_right (by decide) (by omega)
    omega
  refine ⟨by omega, fun j hj => ?_, ?_, ?_⟩
  · rw [hsz] at hj ⊢
    show (((Lib.itoa k).toArray.toList).getD j 0).toNat = _
    rw [Lib.itoa_nonneg, List.toList_toArray, Lib.decDigits_eq]
    simp only [List.getD, List.getElem?_map, List.getElem?_range hj, Option.map_some, Option.getD_some, Lib.dg]
    have : k / 10 ^ (Lib.nDigits k - 1 - j) % 10 < 10 := Nat.mod_lt _ (by decide)
    rw [UInt8.toNat_ofNat']
    omega
  · rw [hsz]
    intro h9
    have hk : 1 ≤ k := Nat.pos_of_ne_zero fun h => by rw [p0 h] at h9; omega
    have p3 := p3 hk
    have h5 : 1 ≤ k / 10 ^ (Lib.nDigits k - 1) := (Nat.le_div_iff_mul_le (Nat.pow_pos (by decide))).2 (by omega)
    have h6 : k / 10 ^ (Lib.nDigits k - 1) < 10 := by
      refine (Nat.div_lt_iff_lt_mul (Nat.pow_pos (by decide))).2 ?_
      have e : 10 * 10 ^ (Lib.nDigits k - 1) = 10 ^ Lib.nDigits k := by
        rw [Nat.mul_comm, ← Nat.pow_succ]; congr 1; omega
      omega
    omega
  · rw [hsz]
    exact Nat.div_eq_of_lt p2
theorem Num.step {k : Nat} {s : ByteArray} (h : Num k s) {i : Nat} (hi : i < s.size) : k / 10 ^ (s.size - (i + 1)) = k / 10 ^ (s.size - i) * 10 + k / 10 ^ (s.size - 1 - i) % 10 := by
  have e1 : s.size - (i + 1) = s.size - 1 - i := by omega
  have e2 : s.size - i = (s.size - 1 - i) + 1 := by omega
  rw [e1, e2, Nat.pow_succ, ← Nat.div_div_eq_div_mul]
  omega
theorem Num.pos {k : Nat} {s : ByteArray} (h : Num k s) : ¬ (((s.data.toList.getD 0 0).toNat : Int) = 45) := by
  have := h.at' 0 (by have := h.sz; omega)
  omega
theorem Num.dig {k : Nat} {s : ByteArray} (h : Num k s) {i : Nat} (hi : i < s.size) : 48 ≤ ((s.data.toList.getD i 0).toNat : Int) ∧ ((s.data.toList.getD i 0).toNat : Int) ≤ 57 := by
  have := h.at' i hi
  omega
theorem ok49 (s : ByteArray) (k : Nat) : VCalls gz 49 [.lit (.string s)] none (fun y _ => ∃ n b, y = .tup [.lit (.int .i64 n), .lit (.bool b)] ∧ (Num k s → n = k ∧ b = true)) := by
  refine VCalls.go (nt := 68) (keep := [0, 2, 3, 4, 5, 6, 7, 14, 26, 31, 43, 63, 64]) (muts := []) (mvs := []) [] f49_at rfl (by kernel_rfl) rfl (by kernel_rfl) rfl (fun i h => by cases h) rfl ?_
  intro hok
  simp only [go_sem] at hok
  simp only [Tryd.f49, Func.code, Option.getD_some]
  simp only [go_sem]
  first | refine gj_ndec (fun h => ?_) (fun h => ?_) | refine gj_dec (fun h => ?_) (fun h => ?_) | refine gj_nbool (fun h => ?_) (fun h => ?_) | refine gj_bool (fun h => ?_) (fun h => ?_)
  · simp only [go_sem, eq_true h]
    have hz : s.size = 0 := by rw [h]; rfl
    have hf : Num k s → (0 : Int) = 0 := fun _ => rfl
    have hw1 : IntKind.i64.wrap ((s.size : Int) - 0) = (s.size : Int) - 0 := wrap64 (by omega) (by omega)
    intro _
    rw [hw1]
    first | refine gj_ndec (fun h3 => ?_) (fun h3 => ?_) | refine gj_dec (fun h3 => ?_) (fun h3 => ?_) | refine gj_nbool (fun h3 => ?_) (fun h3 => ?_) | refine gj_bool (fun h3 => ?_) (fun h3 => ?_)
    · simp only [go_sem, h3]
      exact ⟨_, _, ⟨rfl, rfl⟩, fun hn => by have := hn.sz; have := hf hn; omega⟩
    · have h30 : ¬ ((s.size : Int) - 0 < 1) := h3
      simp only [go_sem, h30]
      intro _
      first | refine branch_ndec (fun h4 => ?_) (fun h4 => ?_) | refine branch_dec (fun h4 => ?_) (fun h4 => ?_) | refine branch_nbool (fun h4 => ?_) (fun h4 => ?_) | refine branch_split (fun h4 => ?_) (fun h4 => ?_)
      · simp only [go_sem]
        exact ⟨_, _, ⟨rfl, rfl⟩, fun hn => by have := hn.sz; have := hf hn; omega⟩
      · simp only [go_sem]
        rw [hw1] at h4
        refine vm_loopK (α := Nat × Int) (fun q => [(0, .lit (.string s)), (4, .lit (.int .i64 0)), (5, .lit (.bool false)), (6, .lit (.int .i64 q.2)), (7, .lit (.int .i64 q.1)) ]) (fun q => q.1 ≤ s.size ∧ (0 ≤ q.2 ∧ q.2 < (10 ^ q.1 : Nat)) ∧ (Num k s → q.2 = (k / 10 ^ (s.size - q.1) : Nat))) (fun q => s.size - q.1) (0, 0) ?_ ?_ (by kernel_rfl) (fun _ => rfl) ?_
        · simp only [go_sem]
          trivial
        · exact ⟨by simp only; omega, ⟨by simp only; omega, by decide⟩, fun hn => by
            first
              | exact absurd (hf hn) (by decide)
              | (show (0 : Int) = ((k / 10 ^ (s.size - 0) : Nat) : Int); rw [Nat.sub_zero, hn.all]; rfl)⟩
        · rintro ⟨i, v⟩ hi hk
          simp only at hi
          obtain ⟨i1, ⟨i2, i3⟩, i4⟩ := hi
          have i5 : 10 ^ i ≤ 10 ^ 11 := Nat.pow_le_pow_right (by decide) (by omega)
          simp only [go_sem]
          intro _
          first | refine branch_ndec (fun h5 => ?_) (fun h5 => ?_) | refine branch_dec (fun h5 => ?_) (fun h5 => ?_) | refine branch_nbool (fun h5 => ?_) (fun h5 => ?_) | refine branch_split (fun h5 => ?_) (fun h5 => ?_)
          · have hlt : i < s.size := by omega
            have h0 : (0 : Int) ≤ (i : Int) := by omega
            have hc := u8_lt (s.data.toList.getD i 0)
            simp only [go_sem, h0, h5, hlt]
            first | refine gj_ndec (fun h6 => ?_) (fun h6 => ?_) | refine gj_dec (fun h6 => ?_) (fun h6 => ?_) | refine gj_nbool (fun h6 => ?_) (fun h6 => ?_) | refine gj_bool (fun h6 => ?_) (fun h6 => ?_)
            · simp only [go_sem, h6]
              exact ⟨_, _, ⟨rfl, rfl⟩, fun hn => by have := hn.dig hlt; omega⟩
            · simp only [go_sem, h6, h0, hlt]
              refine ⟨by omega, ?_⟩
              first | refine branch_ndec (fun h7 => ?_) (fun h7 => ?_) | refine branch_dec (fun h7 => ?_) (fun h7 => ?_) | refine branch_nbool (fun h7 => ?_) (fun h7 => ?_) | refine branch_split (fun h7 => ?_) (fun h7 => ?_)
              · simp only [go_sem]
                exact ⟨_, _, ⟨rfl, rfl⟩, fun hn => by have := hn.dig hlt; omega⟩
              · simp only [go_sem, h0, h5]
                simp (disch := omega) only [wrap64, wrapU64, wrapU32, wrapU8]
                have hinv : i + 1 ≤ s.size ∧ (0 ≤ v * 10 + (((s.data.toList.getD i 0).toNat : Int) - 48) ∧ v * 10 + (((s.data.toList.getD i 0).toNat : Int) - 48) < ((10 ^ (i + 1) : Nat) : Int)) ∧ (Num k s → v * 10 + (((s.data.toList.getD i 0).toNat : Int) - 48) = ((k / 10 ^ (s.size - (i + 1)) : Nat) : Int)) := ⟨by omega, ⟨by omega, by simp only [Nat.pow_succ]; omega⟩, fun hn => by
                  have p1 := i4 hn
                  have p2 := hn.step hlt
                  have p3 := hn.at' i hlt
                  rw [p2, p1, p3]
                  omega⟩
                refine again_intro (i + 1, v * 10 + (((s.data.toList.getD i 0).toNat : Int) - 48)) hinv (by simp only; omega) ?_
                simp only [go_sem]
                trivial
          · have e : i = s.size := by omega
            subst e
            have hv : Num k s → v = k := fun hn => by have := i4 hn; simpa using this
            simp only [go_sem]
            refine ⟨by omega, ?_⟩
            first | refine gj_ndec (fun h8 => ?_) (fun h8 => ?_) | refine gj_dec (fun h8 => ?_) (fun h8 => ?_) | refine gj_nbool (fun h8 => ?_) (fun h8 => ?_) | refine gj_bool (fun h8 => ?_) (fun h8 => ?_)
            · simp only [go_sem, h8]
              intro _
              first | refine branch_ndec (fun h9 => ?_) (fun h9 => ?_) | refine branch_dec (fun h9 => ?_) (fun h9 => ?_) | refine branch_nbool (fun h9 => ?_) (fun h9 => ?_) | refine branch_split (fun h9 => ?_) (fun h9 => ?_)
              · simp only [go_sem]
                exact ⟨_, _, ⟨rfl, rfl⟩, fun hn => by have := hn.hd (by omega); have := hn.at' 0 (by omega); simp only [Nat.sub_zero] at this; omega⟩
              · simp only [go_sem]
                exact ⟨_, _, ⟨rfl, rfl⟩, fun hn => ⟨hv hn, rfl⟩⟩
            · simp only [go_sem, h8]
              exact ⟨_, _, ⟨rfl, rfl⟩, fun hn => ⟨hv hn, rfl⟩⟩
  · simp only [go_sem, h]
    have hz : 0 < s.size := Nat.pos_of_ne_zero fun hz => by
      have : s.data.toList = [] := List.eq_nil_of_length_eq_zero (by rw [← bsz]; exact hz)
      exact h (bext (this.trans rfl))
    refine ⟨by omega, ?_⟩
    first | refine branch_ndec (fun h2 => ?_) (fun h2 => ?_) | refine branch_dec (fun h2 => ?_) (fun h2 => ?_) | refine branch_nbool (fun h2 => ?_) (fun h2 => ?_) | refine branch_split (fun h2 => ?_) (fun h2 => ?_)
    · simp only [go_sem]
      have hf : Num k s → (1 : Int) = 0 := fun hn => absurd h2 hn.pos
      have hw1 : IntKind.i64.wrap ((s.size : Int) - 1) = (s.size : Int) - 1 := wrap64 (by omega) (by omega)
      intro _
      rw [hw1]
      first | refine gj_ndec (fun h3 => ?_) (fun h3 => ?_) | refine gj_dec (fun h3 => ?_) (fun h3 => ?_) | refine gj_nbool (fun h3 => ?_) (fun h3 => ?_) | refine gj_bool (fun h3 => ?_) (fun h3 => ?_)
      · simp only [go_sem, h3]
        exact ⟨_, _, ⟨rfl, rfl⟩, fun hn => by have := hn.sz; have := hf hn; omega⟩
      · have h30 : ¬ ((s.size : Int) - 1 < 1) := h3
        simp only [go_sem, h30]
        intro _
        first | refine branch_ndec (fun h4 => ?_) (fun h4 => ?_) | refine branch_dec (fun h4 => ?_) (fun h4 => ?_) | refine branch_nbool (fun h4 => ?_) (fun h4 => ?_) | refine branch_split (fun h4 => ?_) (fun h4 => ?_)
        · simp only [go_sem]
          exact ⟨_, _, ⟨rfl, rfl⟩, fun hn => by have := hn.sz; have := hf hn; omega⟩
        · simp only [go_sem]
          rw [hw1] at h4
          refine vm_loopK (α := Nat × Int) (fun q => [(0, .lit (.string s)), (4, .lit (.int .i64 1)), (5, .lit (.bool true)), (6, .lit (.int .i64 q.2)), (7, .lit (.int .i64 q.1)) ]) (fun q => q.1 ≤ s.size ∧ (0 ≤ q.2 ∧ q.2 < (10 ^ q.1 : Nat)) ∧ (Num k s → q.2 = (k / 10 ^ (s.size - q.1) : Nat))) (fun q => s.size - q.1) (1, 0) ?_ ?_ (by kernel_rfl) (fun _ => rfl) ?_
          · simp only [go_sem]
            trivial
          · exact ⟨by simp only; omega, ⟨by simp only; omega, by decide⟩, fun hn => by
              first
                | exact absurd (hf hn) (by decide)
                | (show (0 : Int) = ((k / 10 ^ (s.size - 0) : Nat) : Int); rw [Nat.sub_zero, hn.all]; rfl)⟩
          · rintro ⟨i, v⟩ hi hk
            simp only at hi
            obtain ⟨i1, ⟨i2, i3⟩, i4⟩ := hi
            have i5 : 10 ^ i ≤ 10 ^ 11 := Nat.pow_le_pow_right (by decide) (by omega)
            simp only [go_sem]
            intro _
            first | refine branch_ndec (fun h5 => ?_) (fun h5 => ?_) | refine branch_dec (fun h5 => ?_) (fun h5 => ?_) | refine branch_nbool (fun h5 => ?_) (fun h5 => ?_) | refine branch_split (fun h5 => ?_) (fun h5 => ?_)
            · have hlt : i < s.size := by omega
              have h0 : (0 : Int) ≤ (i : Int) := by omega
              have hc := u8_lt (s.data.toList.getD i 0)
              simp only [go_sem, h0, h5, hlt]
              first | refine gj_ndec (fun h6 => ?_) (fun h6 => ?_) | refine gj_dec (fun h6 => ?_) (fun h6 => ?_) | refine gj_nbool (fun h6 => ?_) (fun h6 => ?_) | refine gj_bool (fun h6 => ?_) (fun h6 => ?_)
              · simp only [go_sem, h6]
                exact ⟨_, _, ⟨rfl, rfl⟩, fun hn => by have := hn.dig hlt; omega⟩
              · simp only [go_sem, h6, h0, hlt]
                refine ⟨by omega, ?_⟩
                first | refine branch_ndec (fun h7 => ?_) (fun h7 => ?_) | refine branch_dec (fun h7 => ?_) (fun h7 => ?_) | refine branch_nbool (fun h7 => ?_) (fun h7 => ?_) | refine branch_split (fun h7 => ?_) (fun h7 => ?_)
                · simp only [go_sem]
                  exact ⟨_, _, ⟨rfl, rfl⟩, fun hn => by have := hn.dig hlt; omega⟩
                · simp only [go_sem, h0, h5]
                  simp (disch := omega) only [wrap64, wrapU64, wrapU32, wrapU8]
                  have hinv : i + 1 ≤ s.size ∧ (0 ≤ v * 10 + (((s.data.toList.getD i 0).toNat : Int) - 48) ∧ v * 10 + (((s.data.toList.getD i 0).toNat : Int) - 48) < ((10 ^ (i + 1) : Nat) : Int)) ∧ (Num k s → v * 10 + (((s.data.toList.getD i 0).toNat : Int) - 48) = ((k / 10 ^ (s.size - (i + 1)) : Nat) : Int)) := ⟨by omega, ⟨by omega, by simp only [Nat.pow_succ]; omega⟩, fun hn => by
                    have p1 := i4 hn
                    have p2 := hn.step hlt
                    have p3 := hn.at' i hlt
                    rw [p2, p1, p3]
                    omega⟩
                  refine again_intro (i + 1, v * 10 + (((s.data.toList.getD i 0).toNat : Int) - 48)) hinv (by simp only; omega) ?_
                  simp only [go_sem]
                  trivial
            · have e : i = s.size := by omega
              subst e
              have hv : Num k s → v = k := fun hn => by have := i4 hn; simpa using this
              simp only [go_sem]
              refine ⟨by omega, ?_⟩
              first | refine gj_ndec (fun h8 => ?_) (fun h8 => ?_) | refine gj_dec (fun h8 => ?_) (fun h8 => ?_) | refine gj_nbool (fun h8 => ?_) (fun h8 => ?_) | refine gj_bool (fun h8 => ?_) (fun h8 => ?_)
              · simp only [go_sem, h8]
                exact ⟨_, _, ⟨rfl, rfl⟩, fun hn => by have := hf hn; omega⟩
              · simp only [go_sem, h8]
                exact ⟨_, _, ⟨rfl, rfl⟩, fun hn => by have := hf hn; omega⟩
    · simp only [go_sem]
      have hf : Num k s → (0 : Int) = 0 := fun _ => rfl
      have hw1 : IntKind.i64.wrap ((s.size : Int) - 0) = (s.size : Int) - 0 := wrap64 (by omega) (by omega)
      intro _
      rw [hw1]
      first | refine gj_ndec (fun h3 => ?_) (fun h3 => ?_) | refine gj_dec (fun h3 => ?_) (fun h3 => ?_) | refine gj_nbool (fun h3 => ?_) (fun h3 => ?_) | refine gj_bool (fun h3 => ?_) (fun h3 => ?_)
      · simp only [go_sem, h3]
        exact ⟨_, _, ⟨rfl, rfl⟩, fun hn => by have := hn.sz; have := hf hn; omega⟩
      · have h30 : ¬ ((s.size : Int) - 0 < 1) := h3
        simp only [go_sem, h30]
        intro _
        first | refine branch_ndec (fun h4 => ?_) (fun h4 => ?_) | refine branch_dec (fun h4 => ?_) (fun h4 => ?_) | refine branch_nbool (fun h4 => ?_) (fun h4 => ?_) | refine branch_split (fun h4 => ?_) (fun h4 => ?_)
        · simp only [go_sem]
          exact ⟨_, _, ⟨rfl, rfl⟩, fun hn => by have := hn.sz; have := hf hn; omega⟩
        · simp only [go_sem]
          rw [hw1] at h4
          refine vm_loopK (α := Nat × Int) (fun q => [(0, .lit (.string s)), (4, .lit (.int .i64 0)), (5, .lit (.bool false)), (6, .lit (.int .i64 q.2)), (7, .lit (.int .i64 q.1)) ]) (fun q => q.1 ≤ s.size ∧ (0 ≤ q.2 ∧ q.2 < (10 ^ q.1 : Nat)) ∧ (Num k s → q.2 = (k / 10 ^ (s.size - q.1) : Nat))) (fun q => s.size - q.1) (0, 0) ?_ ?_ (by kernel_rfl) (fun _ => rfl) ?_
          · simp only [go_sem]
            trivial
          · exact ⟨by simp only; omega, ⟨by simp only; omega, by decide⟩, fun hn => by
              first
                | exact absurd (hf hn) (by decide)
                | (show (0 : Int) = ((k / 10 ^ (s.size - 0) : Nat) : Int); rw [Nat.sub_zero, hn.all]; rfl)⟩
          · rintro ⟨i, v⟩ hi hk
            simp only at hi
            obtain ⟨i1, ⟨i2, i3⟩, i4⟩ := hi
            have i5 : 10 ^ i ≤ 10 ^ 11 := Nat.pow_le_pow_right (by decide) (by omega)
            simp only [go_sem]
            intro _
            first | refine branch_ndec (fun h5 => ?_) (fun h5 => ?_) | refine branch_dec (fun h5 => ?_) (fun h5 => ?_) | refine branch_nbool (fun h5 => ?_) (fun h5 => ?_) | refine branch_split (fun h5 => ?_) (fun h5 => ?_)
            · have hlt : i < s.size := by omega
              have h0 : (0 : Int) ≤ (i : Int) := by omega
              have hc := u8_lt (s.data.toList.getD i 0)
              simp only [go_sem, h0, h5, hlt]
              first | refine gj_ndec (fun h6 => ?_) (fun h6 => ?_) | refine gj_dec (fun h6 => ?_) (fun h6 => ?_) | refine gj_nbool (fun h6 => ?_) (fun h6 => ?_) | refine gj_bool (fun h6 => ?_) (fun h6 => ?_)
              · simp only [go_sem, h6]
                exact ⟨_, _, ⟨rfl, rfl⟩, fun hn => by have := hn.dig hlt; omega⟩
              · simp only [go_sem, h6, h0, hlt]
                refine ⟨by omega, ?_⟩
                first | refine branch_ndec (fun h7 => ?_) (fun h7 => ?_) | refine branch_dec (fun h7 => ?_) (fun h7 => ?_) | refine branch_nbool (fun h7 => ?_) (fun h7 => ?_) | refine branch_split (fun h7 => ?_) (fun h7 => ?_)
                · simp only [go_sem]
                  exact ⟨_, _, ⟨rfl, rfl⟩, fun hn => by have := hn.dig hlt; omega⟩
                · simp only [go_sem, h0, h5]
                  simp (disch := omega) only [wrap64, wrapU64, wrapU32, wrapU8]
                  have hinv : i + 1 ≤ s.size ∧ (0 ≤ v * 10 + (((s.data.toList.getD i 0).toNat : Int) - 48) ∧ v * 10 + (((s.data.toList.getD i 0).toNat : Int) - 48) < ((10 ^ (i + 1) : Nat) : Int)) ∧ (Num k s → v * 10 + (((s.data.toList.getD i 0).toNat : Int) - 48) = ((k / 10 ^ (s.size - (i + 1)) : Nat) : Int)) := ⟨by omega, ⟨by omega, by simp only [Nat.pow_succ]; omega⟩, fun hn => by
                    have p1 := i4 hn
                    have p2 := hn.step hlt
                    have p3 := hn.at' i hlt
                    rw [p2, p1, p3]
                    omega⟩
                  refine again_intro (i + 1, v * 10 + (((s.data.toList.getD i 0).toNat : Int) - 48)) hinv (by simp only; omega) ?_
                  simp only [go_sem]
                  trivial
            · have e : i = s.size := by omega
              subst e
              have hv : Num k s → v = k := fun hn => by have := i4 hn; simpa using this
              simp only [go_sem]
              refine ⟨by omega, ?_⟩
              first | refine gj_ndec (fun h8 => ?_) (fun h8 => ?_) | refine gj_dec (fun h8 => ?_) (fun h8 => ?_) | refine gj_nbool (fun h8 => ?_) (fun h8 => ?_) | refine gj_bool (fun h8 => ?_) (fun h8 => ?_)
              · simp only [go_sem, h8]
                intro _
                first | refine branch_ndec (fun h9 => ?_) (fun h9 => ?_) | refine branch_dec (fun h9 => ?_) (fun h9 => ?_) | refine branch_nbool (fun h9 => ?_) (fun h9 => ?_) | refine branch_split (fun h9 => ?_) (fun h9 => ?_)
                · simp only [go_sem]
                  exact ⟨_, _, ⟨rfl, rfl⟩, fun hn => by have := hn.hd (by omega); have := hn.at' 0 (by omega); simp only [Nat.sub_zero] at this; omega⟩
                · simp only [go_sem]
                  exact ⟨_, _, ⟨rfl, rfl⟩, fun hn => ⟨hv hn, rfl⟩⟩
              · simp only [go_sem, h8]
                exact ⟨_, _, ⟨rfl, rfl⟩, fun hn => ⟨hv hn, rfl⟩⟩
end Go.VS

set_option linter.unusedSimpArgs false
set_option linter.unusedVariables false
open Go.Proofs
set_option maxRecDepth 20000
namespace Go.VS
theorem f47_at : gz.P.funcs[47]? = some Tryd.f47 := by
  have h : Tryd.prog.funcs[47]? = some Tryd.f47 := by kernel_rfl
  exact h
theorem pU_app (M : Nat) (r : List UInt8) : ∀ (l : List UInt8) (acc : Nat), Lib.parseUintM M acc (l ++ r) = match Lib.parseUintM M acc l with | .ok u => Lib.parseUintM M u r | e => e
  | [], acc => rfl
  | c :: l, acc => by
    simp only [List.cons_append, Lib.parseUintM]
    split
    · split
      · rfl
      · split
        · rfl
        · exact pU_app M r l _
    · rfl
theorem pU_dec (u : Nat) : u < 10000000000 → Lib.parseUintM (2 ^ 64 - 1) 0 (Lib.decDigits u) = .ok u := by
  induction u using Nat.strongRecOn with
  | _ u ih =>
    intro h
    rw [Lib.decDigits]
    split
    · rename_i h1
      have e : (UInt8.ofNat (48 + u)).toNat = 48 + u := by rw [UInt8.toNat_ofNat']; omega
      simp only [Lib.parseUintM, e]
      rw [if_pos (by omega), if_neg (by omega), if_neg (by omega)]
      congr 1
      omega
    · rename_i h1
      rw [pU_app, ih (u / 10) (by omega) (by omega)]
      have e : (UInt8.ofNat (48 + u % 10)).toNat = 48 + u % 10 := by rw [UInt8.toNat_ofNat']; omega
      simp only [Lib.parseUintM, e]
      rw [if_pos (by omega), if_neg (by omega), if_neg (by omega)]
      congr 1
      omega
theorem decDigits_head (u : Nat) : ∃ c r, Lib.decDigits u = c :: r ∧ 48 ≤ c.toNat ∧ c.toNat ≤ 57 := by
  induction u using Nat.strongRecOn with
  | _ u ih =>
    rw [Lib.decDigits]
    split
    · rename_i h1
      exact ⟨_, _, rfl, by rw [UInt8.toNat_ofNat']; omega, by rw [UInt8.toNat_ofNat']; omega⟩
    · obtain ⟨c, r, h1, h2⟩ := ih (u / 10) (by omega)
      rw [h1]
      exact ⟨_, _, rfl, h2⟩
theorem itoaB_toList (k : Nat) : (itoaB k).data.toList = Lib.decDigits k := by
  show (Lib.itoa k).toArray.toList = _
  rw [Lib.itoa_nonneg, List.toList_toArray]
theorem parse_itoaB {k : Nat} (h : k < 10000000000) : parsedV (itoaB k) = .tup [.lit (.int .i64 k), .lit .nilIface] := by
  have h1 : Lib.parseIntB 64 (itoaB k).data.toList = .ok (k : Int) := by
    rw [itoaB_toList]
    obtain ⟨c, r, h1, h2, h3⟩ := decDigits_head k
    have h4 := pU_dec k h
    rw [h1] at h4 ⊢
    unfold Lib.parseIntB
    simp only
    rw [if_neg (by omega)]
    unfold Lib.parseUintB
    rw [if_neg (by simp), h4]
    simp only
    rw [if_neg (by omega), if_neg (by omega), if_neg (by omega)]
  unfold parsedV
  rw [h1]
theorem trim_itoaB (k : Nat) : trimP (itoaB k) ⟨#[45]⟩ = itoaB k := by
  apply bext
  show (Lib.trimPrefix (itoaB k).data.toList [45]).toArray.toList = _
  rw [List.toList_toArray, itoaB_toList]
  obtain ⟨c, r, h1, h2, h3⟩ := decDigits_head k
  rw [h1]
  unfold Lib.trimPrefix Lib.hasPrefix
  rw [if_neg]
  simp only [List.isPrefixOf, Bool.and_true, beq_iff_eq]
  rintro rfl
  revert h2
  decide
theorem parsedV_cases (s : ByteArray) : (∃ v : Int, parsedV s = .tup [.lit (.int .i64 v), .lit .nilIface]) ∨ ∃ v : Int, parsedV s = .tup [.lit (.int .i64 v), .ifc] := by
  unfold parsedV
  split
  · exact .inl ⟨_, rfl⟩
  · exact .inr ⟨_, rfl⟩
  · exact .inr ⟨_, rfl⟩
theorem ok47 (s : ByteArray) (hs : s.size ≤ 4000000) (k : Nat) (h1k : 0 ≤ k) (hk : k < 10000000000) : VCalls gz 47 [.lit (.string s)] none (fun y _ => ∃ n b, y = .tup [.lit (.int .i64 n), .lit (.bool b)] ∧ (s = itoaB k → n = k ∧ b = true)) := by
  refine VCalls.go (nt := 24) (keep := [0, 2, 3, 4, 5, 9]) (muts := []) (mvs := []) [] f47_at rfl (by kernel_rfl) rfl (by kernel_rfl) rfl (fun i h => by cases h) rfl ?_
  intro hok
  simp only [go_sem] at hok
  simp only [Tryd.f47, Func.code, Option.getD_some]
  simp only [go_sem]
  refine call_lend ?_
  simp only [go_sem]
  refine callN.eq (ok64 s ⟨#[45]⟩) (by simp only [go_sem]) ?_
  simp only [go_sem]
  intro _
  first | refine branch_ndec (fun h1 => ?_) (fun h1 => ?_) | refine branch_dec (fun h1 => ?_) (fun h1 => ?_) | refine branch_nbool (fun h1 => ?_) (fun h1 => ?_) | refine branch_split (fun h1 => ?_) (fun h1 => ?_)
  · simp only [go_sem]
    refine ⟨_, _, ⟨rfl, rfl⟩, fun hn => ?_⟩
    subst hn
    rw [trim_itoaB] at h1
    have := (itoaB_num h1k hk).sz
    omega
  · simp only [go_sem]
    have h220 := ok65 s (by omega)
    rcases parsedV_cases s with ⟨v, e⟩ | ⟨v, e⟩ <;> rw [e] at h220
    · refine call_lend ?_
      simp only [go_sem]
      refine callN.eq (h220) (by simp only [go_sem]) ?_
      simp only [go_sem]
      refine call_lend ?_
      simp only [go_sem]
      refine callN.eq (ok41 v) (by simp only [go_sem]) ?_
      simp only [go_sem]
      refine ⟨_, _, ⟨rfl, rfl⟩, fun hn => ?_⟩
      subst hn
      rw [parse_itoaB hk] at e
      cases e
      exact ⟨rfl, by simp⟩
    · refine call_lend ?_
      simp only [go_sem]
      refine callN.eq (h220) (by simp only [go_sem]) ?_
      simp only [go_sem]
      refine ⟨_, _, ⟨rfl, rfl⟩, fun hn => ?_⟩
      subst hn
      rw [parse_itoaB hk] at e
      cases e
end Go.VS
