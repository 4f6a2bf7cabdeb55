/- VS: functions by the machine. -/
import Derived.Test.YtbpjfoaafgmeaaaGreatDoorVf
import Derived.Test.YtbpjfoaafgmeaaaGreatDoorVg
set_option linter.unusedSimpArgs false
set_option linter.unusedVariables false
open Go.Proofs
set_option maxRecDepth 20000
namespace Go.VS
theorem f126_at : gz.P.funcs[126]? = some Tryz.f126 := by
  have h : Tryz.prog.funcs[126]? = some Tryz.f126 := by kernel_rfl
  exact h
theorem f130_at : gz.P.funcs[130]? = some Tryz.f130 := by
  have h : Tryz.prog.funcs[130]? = some Tryz.f130 := by kernel_rfl
  exact h
/-- a number, seven bits a byte -/
def numB (n : Nat) : List UInt8 := if h : n < 128 then [UInt8.ofNat n] else UInt8.ofNat (n % 128 + 128) :: numB (n / 128)
termination_by n
theorem numB_lt {n : Nat} (h : n < 128) : numB n = [UInt8.ofNat n] := by rw [numB, dif_pos h]
theorem numB_ge {n : Nat} (h : ¬ n < 128) : numB n = UInt8.ofNat (n % 128 + 128) :: numB (n / 128) := by rw [numB, dif_neg h]
theorem numB_len : ∀ (k n : Nat), n < 128 ^ (k + 1) → (numB n).length ≤ k + 1
  | 0, n, h => by rw [numB_lt (by omega)]; simp
  | k + 1, n, h => by
    by_cases hn : n < 128
    · rw [numB_lt hn]; simp
    · rw [numB_ge hn]
      have := numB_len k (n / 128) (by rw [Nat.div_lt_iff_lt_mul (by omega)]; rw [Nat.pow_succ] at h; exact h)
      simp only [List.length_cons]
      omega
theorem numB_len9 {n : Nat} (h : n ≤ 4611686018427387904) : (numB n).length ≤ 9 := numB_len 8 n (by omega)
theorem orI_128 (m : Nat) : orI .u8 (IntKind.u8.wrap (m : Int)) 128 = ((m % 128 + 128 : Nat) : Int) := by
  have h : ∀ a : Fin 256, orI .u8 (a.val : Int) 128 = ((a.val % 128 + 128 : Nat) : Int) := by decide
  have h2 : IntKind.u8.wrap (m : Int) = ((m % 256 : Nat) : Int) := by
    simp [IntKind.wrap, IntKind.bits, IntKind.signed]
  rw [h2]
  have := h ⟨m % 256, by omega⟩
  rw [this]
  simp only
  omega
theorem shr_7 (m : Nat) : shrI .i64 (m : Int) 7 = ((m / 128 : Nat) : Int) := by
  have : shrI .i64 (m : Int) 7 = (m : Int).fdiv 128 := rfl
  rw [this, Int.fdiv_eq_ediv_of_nonneg _ (by omega)]
  omega
theorem u8_of {k : Nat} (h : k < 256) : (UInt8.ofNat k).toNat = k := by simp [UInt8.toNat_ofNat']; omega
theorem byteA_of {k : Nat} (h : k < 256) : byteA (UInt8.ofNat k) = .lit (.int .u8 k) := by
  have : (UInt8.ofNat k).toNat = k := by simp [UInt8.toNat_ofNat']; omega
  rw [byteA_eq, this]
theorem numB_step {pre : List UInt8} {m n : Nat} (he : pre ++ numB m = numB n) (hg : ¬ m < 128) : (pre ++ [UInt8.ofNat (m % 128 + 128)]) ++ numB (m / 128) = numB n := by
  rw [← he, numB_ge hg, List.append_assoc]
  rfl
theorem ok126 (n : Nat) (hn : n ≤ 4611686018427387904) : VCalls gz 126 [.lit (.int .i64 n)] none (fun y _ => y = .lst true 1 ((numB n).map byteA)) := by
  refine VCalls.go (nt := 21) (keep := [0, 2, 3, 6]) (muts := []) (mvs := []) [] f126_at rfl (by kernel_rfl) rfl (by kernel_rfl) rfl (fun i h => by cases h) rfl ?_
  intro hok
  simp only [go_sem] at hok
  simp only [Tryz.f126, Func.code, Option.getD_some]
  simp only [go_sem]
  have hn9 := numB_len9 hn
  refine vm_loopK (α := List UInt8 × Nat) (fun q => [(0, .lit (.int .i64 q.2)), (3, .lst true 1 (q.1.map byteA))]) (fun q => q.1 ++ numB q.2 = numB n ∧ q.2 ≤ n) (fun q => q.2) ([], n) ?_ ⟨rfl, Nat.le_refl _⟩ (by kernel_rfl) (fun _ => rfl) ?_
  · simp only [go_sem]
    try trivial
  · rintro ⟨pre, m⟩ ⟨he, hm⟩ hk
    simp only at he hm
    have hpl : pre.length ≤ 9 := by
      have := congrArg List.length he
      rw [List.length_append] at this
      omega
    simp only [go_sem]
    first | refine branch_ndec (fun h1 => ?_) (fun h1 => ?_) | refine branch_dec (fun h1 => ?_) (fun h1 => ?_) | refine branch_nbool (fun h1 => ?_) (fun h1 => ?_) | refine branch_split (fun h1 => ?_) (fun h1 => ?_)
    · have e1 : IntKind.u8.wrap (IntKind.i64.wrap ((m : Int).tmod 128 + 128)) = ((m % 128 + 128 : Nat) : Int) := by
        rw [Int.tmod_eq_emod_of_nonneg (by omega), wrap64 (by omega) (by omega), wrapU8 (by omega) (by omega)]
        omega
      have e2 : IntKind.i64.wrap ((m : Int).tdiv 128) = ((m / 128 : Nat) : Int) := by
        rw [Int.tdiv_eq_ediv_of_nonneg (by omega), wrap64 (by omega) (by omega)]
        omega
      simp only [go_sem, e1, e2]
      refine ⟨by omega, ?_⟩
      refine again_intro (pre ++ [UInt8.ofNat (m % 128 + 128)], m / 128) ⟨numB_step he (by omega), by show m / 128 ≤ n; omega⟩ (by show m / 128 < m; omega) ?_
      simp only [go_sem]
      rw [u8_of (by omega)]
    · have e1 : IntKind.u8.wrap (m : Int) = (m : Int) := wrapU8 (by omega) (by omega)
      simp only [go_sem, e1]
      refine ⟨by omega, ?_⟩
      rw [← he, numB_lt (by omega), List.map_append, List.map_cons, List.map_nil, byteA_of (by omega)]
theorem ok130 (n : Nat) (hn : n ≤ 1099511627776) : VCalls gz 130 [.lit (.int .i64 n)] none (fun y _ => y = .lst true 1 ((numB n).map byteA)) := by
  refine VCalls.go (nt := 23) (keep := [0, 2, 3, 6, 9]) (muts := []) (mvs := []) [] f130_at rfl (by kernel_rfl) rfl (by kernel_rfl) rfl (fun i h => by cases h) rfl ?_
  intro hok
  simp only [go_sem] at hok
  simp only [Tryz.f130, Func.code, Option.getD_some]
  simp only [go_sem]
  have hn9 := numB_len9 (n := n) (by omega)
  have hin : 0 ≤ (n : Int) ∧ (n : Int) ≤ 1099511627776 := by omega
  refine call_lend ?_
  simp only [go_sem]
  refine callN.eq (ok52 n 0 1099511627776) (by simp only [go_sem]) ?_
  simp only [go_sem]
  simp only [go_sem, eq_true hin]
  refine vm_loopK (α := List UInt8 × Nat) (fun q => [(0, .lit (.int .i64 q.2)), (3, .lst true 1 (q.1.map byteA))]) (fun q => q.1 ++ numB q.2 = numB n ∧ q.2 ≤ n) (fun q => q.2) ([], n) ?_ ⟨rfl, Nat.le_refl _⟩ (by kernel_rfl) (fun _ => rfl) ?_
  · simp only [go_sem]
    try trivial
  · rintro ⟨pre, m⟩ ⟨he, hm⟩ hk
    simp only at he hm
    have hpl : pre.length ≤ 9 := by
      have := congrArg List.length he
      rw [List.length_append] at this
      omega
    simp only [go_sem]
    first | refine branch_ndec (fun h1 => ?_) (fun h1 => ?_) | refine branch_dec (fun h1 => ?_) (fun h1 => ?_) | refine branch_nbool (fun h1 => ?_) (fun h1 => ?_) | refine branch_split (fun h1 => ?_) (fun h1 => ?_)
    · simp only [go_sem, orI_128, shr_7]
      refine ⟨by omega, ?_⟩
      refine again_intro (pre ++ [UInt8.ofNat (m % 128 + 128)], m / 128) ⟨numB_step he (by omega), by show m / 128 ≤ n; omega⟩ (by show m / 128 < m; omega) ?_
      simp only [go_sem]
      rw [u8_of (by omega)]
    · have e1 : IntKind.u8.wrap (m : Int) = (m : Int) := wrapU8 (by omega) (by omega)
      simp only [go_sem, e1]
      refine ⟨by omega, ?_⟩
      rw [← he, numB_lt (by omega), List.map_append, List.map_cons, List.map_nil, byteA_of (by omega)]
end Go.VS

set_option linter.unusedSimpArgs false
set_option linter.unusedVariables false
open Go.Proofs
set_option maxRecDepth 20000
namespace Go.VS
theorem f149_at : gz.P.funcs[149]? = some Tryz.f149 := by
  have h : Tryz.prog.funcs[149]? = some Tryz.f149 := by kernel_rfl
  exact h
theorem f150_at : gz.P.funcs[150]? = some Tryz.f150 := by
  have h : Tryz.prog.funcs[150]? = some Tryz.f150 := by kernel_rfl
  exact h
theorem f127_at : gz.P.funcs[127]? = some Tryz.f127 := by
  have h : Tryz.prog.funcs[127]? = some Tryz.f127 := by kernel_rfl
  exact h
theorem f129_at : gz.P.funcs[129]? = some Tryz.f129 := by
  have h : Tryz.prog.funcs[129]? = some Tryz.f129 := by kernel_rfl
  exact h
/-- a text, written out -/
def txtB (s : ByteArray) : List UInt8 := numB s.size ++ s.data.toList
theorem txtB_len {s : ByteArray} (hs : s.size ≤ 3000) : (txtB s).length ≤ 3009 := by
  have h1 := numB_len9 (n := s.size) (by omega)
  have h2 : s.data.toList.length = s.size := (bsz s).symm
  simp only [txtB, List.length_append]
  omega
theorem ok149 (s : ByteArray) (hs : s.size ≤ 3000) : VCalls gz 149 [.lit (.string s)] none (fun y _ => y = .lst true 1 ((txtB s).map byteA)) := by
  refine VCalls.go (nt := 8) (keep := [0, 2]) (muts := []) (mvs := []) [] f149_at rfl (by kernel_rfl) rfl (by kernel_rfl) rfl (fun i h => by cases h) rfl ?_
  intro hok
  simp only [go_sem] at hok
  simp only [Tryz.f149, Func.code, Option.getD_some]
  simp only [go_sem]
  intro hm
  refine call_lend ?_
  simp only [go_sem]
  refine callN.eq (ok126 s.size (by omega)) (by simp only [go_sem]) ?_
  simp only [go_sem]
  have h1 := numB_len9 (n := s.size) (by omega)
  have h2 : s.data.toList.length = s.size := (bsz s).symm
  refine ⟨by omega, ?_⟩
  rw [txtB, List.map_append]
theorem ok150 (s : ByteArray) (hs : s.size ≤ 3000) : VCalls gz 150 [.lit (.string s)] none (fun y _ => y = .lst true 1 ((txtB s).map byteA)) := by
  refine VCalls.go (nt := 11) (keep := [0, 2, 5]) (muts := []) (mvs := []) [] f150_at rfl (by kernel_rfl) rfl (by kernel_rfl) rfl (fun i h => by cases h) rfl ?_
  intro hok
  simp only [go_sem] at hok
  simp only [Tryz.f150, Func.code, Option.getD_some]
  simp only [go_sem]
  intro hm
  have h3 : ¬ 3000 < (s.size : Int) := by omega
  simp only [go_sem, h3]
  intro hm2
  refine call_lend ?_
  simp only [go_sem]
  refine callN.eq (ok130 s.size (by omega)) (by simp only [go_sem]) ?_
  simp only [go_sem]
  have h1 := numB_len9 (n := s.size) (by omega)
  have h2 : s.data.toList.length = s.size := (bsz s).symm
  refine ⟨by omega, ?_⟩
  rw [txtB, List.map_append]
/-- texts, the first i of them -/
def txsN (l : List ByteArray) (i : Nat) : List UInt8 := numB l.length ++ ((l.take i).map txtB).flatten
def txsOk (l : List ByteArray) : Bool := decide (l.length ≤ 200) && l.all fun s => decide (s.size ≤ 3000)
def txs (l : List ByteArray) : List UInt8 := if txsOk l = true then txsN l l.length else []
theorem txsN_zero {l : List ByteArray} : txsN l 0 = numB l.length := by simp [txsN]
theorem txsN_succ {l : List ByteArray} {i : Nat} (h : i < l.length) : txsN l (i + 1) = txsN l i ++ txtB (l.getD i default) := by
  simp only [txsN, take_succ_getD h, List.map_append, List.flatten_append, List.append_assoc, List.map_cons, List.map_nil, List.flatten_cons, List.flatten_nil, List.append_nil]
theorem txsN_len {l : List ByteArray} (hl : l.length ≤ 200) : ∀ {i : Nat}, i ≤ l.length → (∀ j, j < i → (l.getD j default).size ≤ 3000) → (txsN l i).length ≤ 9 + i * 3009
  | 0, _, _ => by
    rw [txsN_zero]
    have := numB_len9 (n := l.length) (by omega)
    omega
  | i + 1, hi, h => by
    rw [txsN_succ (by omega), List.length_append]
    have h1 := txsN_len hl (i := i) (by omega) (fun j hj => h j (by omega))
    have h2 := txtB_len (h i (by omega))
    omega
theorem txs_len {l : List ByteArray} : (txs l).length ≤ 700000 := by
  unfold txs
  split
  · rename_i h
    simp only [txsOk, Bool.and_eq_true, decide_eq_true_eq, List.all_eq_true] at h
    have := txsN_len h.1 (Nat.le_refl _) (fun j hj => h.2 _ (getD_mem hj))
    omega
  · simp
theorem txsOk_bad {l : List ByteArray} {i : Nat} (hi : i < l.length) (h : 3000 < ((l.getD i default).size : Int)) : txs l = [] := by
  have : txsOk l = false := by
    have : l.all (fun s => decide (s.size ≤ 3000)) = false := List.all_eq_false.2 ⟨_, getD_mem hi, by simp only [decide_eq_true_eq]; omega⟩
    simp only [txsOk, this, Bool.and_false]
  simp only [txs, this, Bool.false_eq_true, if_false]
theorem txsOk_all {l : List ByteArray} (hl : l.length ≤ 200) (h : ∀ j, j < l.length → (l.getD j default).size ≤ 3000) : txs l = txsN l l.length := by
  have : txsOk l = true := by
    simp only [txsOk, Bool.and_eq_true, decide_eq_true_eq, List.all_eq_true]
    refine ⟨hl, fun x hx => ?_⟩
    obtain ⟨j, hj, rfl⟩ := List.mem_iff_getElem.1 hx
    have := h j hj
    simpa [List.getD, hj] using this
  simp only [txs, this, if_true]
theorem txs_long {l : List ByteArray} (h : 200 < (l.length : Int)) : txs l = [] := by
  have : txsOk l = false := by simp only [txsOk, decide_eq_false (show ¬ l.length ≤ 200 by omega), Bool.false_and]
  simp only [txs, this, Bool.false_eq_true, if_false]
theorem ok127 (l : List ByteArray) : VCalls gz 127 [.lst false 1 (l.map strA)] none (fun y _ => y = .lst true 1 ((txs l).map byteA)) := by
  refine VCalls.go (nt := 33) (keep := [0, 2, 3, 4, 7, 15, 23]) (muts := []) (mvs := []) [] f127_at rfl (by kernel_rfl) rfl (by kernel_rfl) rfl (fun i h => by cases h) rfl ?_
  intro hok
  simp only [go_sem] at hok
  simp only [Tryz.f127, Func.code, Option.getD_some]
  simp only [go_sem]
  intro hm
  first | refine branch_ndec (fun h1 => ?_) (fun h1 => ?_) | refine branch_dec (fun h1 => ?_) (fun h1 => ?_) | refine branch_nbool (fun h1 => ?_) (fun h1 => ?_) | refine branch_split (fun h1 => ?_) (fun h1 => ?_)
  · simp only [go_sem, txs_long h1]
    try trivial
  simp only [go_sem]
  intro hm2
  refine call_lend ?_
  simp only [go_sem]
  refine callN.eq (ok126 l.length (by omega)) (by simp only [go_sem]) ?_
  simp only [go_sem]
  have hl : l.length ≤ 200 := by omega
  refine vm_loopK (α := Nat) (fun i => [(0, .lst false 1 (l.map strA)), (3, .lst true 1 ((txsN l i).map byteA)), (4, .lit (.int .i64 i))]) (fun i => i ≤ l.length ∧ ∀ j, j < i → (l.getD j default).size ≤ 3000) (fun i => l.length - i) 0 ?_ ⟨by omega, fun j hj => by omega⟩ (by kernel_rfl) (fun _ => rfl) ?_
  · simp only [go_sem, txsN_zero]
    try trivial
  · rintro i ⟨hi, he⟩ hk
    simp only [go_sem]
    intro _
    first | refine branch_ndec (fun h6 => ?_) (fun h6 => ?_) | refine branch_dec (fun h6 => ?_) (fun h6 => ?_) | refine branch_nbool (fun h6 => ?_) (fun h6 => ?_) | refine branch_split (fun h6 => ?_) (fun h6 => ?_)
    rotate_left
    · have hie : i = l.length := by omega
      subst hie
      simp only [go_sem, txsOk_all hl he]
      try trivial
    have hlt : i < l.length := by omega
    have h0 : (0 : Int) ≤ (i : Int) := by omega
    have hw3 : IntKind.i64.wrap ((i : Int) + 1) = ((i + 1 : Nat) : Int) := by rw [wrap64 (by omega) (by omega)]; omega
    have hlen := txsN_len hl hi he
    simp only [go_sem, h0, hlt, h6]
    intro _
    first | refine branch_ndec (fun h7 => ?_) (fun h7 => ?_) | refine branch_dec (fun h7 => ?_) (fun h7 => ?_) | refine branch_nbool (fun h7 => ?_) (fun h7 => ?_) | refine branch_split (fun h7 => ?_) (fun h7 => ?_)
    · simp only [go_sem, txsOk_bad hlt h7]
      try trivial
    · have hsz : (l.getD i default).size ≤ 3000 := by omega
      have hlen2 := txtB_len hsz
      simp only [go_sem, h0, hlt, h6]
      refine call_lend ?_
      simp only [go_sem]
      refine callN.eq (ok149 (l.getD i default) hsz) (by simp only [go_sem]) ?_
      simp only [go_sem]
      refine ⟨by omega, ?_⟩
      rw [hw3]
      refine again_intro (i + 1) ⟨by omega, fun j hj => ?_⟩ (by omega) ?_
      · by_cases hji : j < i
        · exact he j hji
        · have : j = i := by omega
          subst this
          exact hsz
      · simp only [go_sem]
        rw [txsN_succ hlt, List.map_append]
        try trivial
theorem ok129 (l : List ByteArray) : VCalls gz 129 [.lst false 1 (l.map strA)] none (fun y _ => y = .lst true 1 ((txs l).map byteA)) := by
  refine VCalls.go (nt := 27) (keep := [0, 2, 3, 5, 8, 12, 13, 14, 15, 20]) (muts := []) (mvs := []) [] f129_at rfl (by kernel_rfl) rfl (by kernel_rfl) rfl (fun i h => by cases h) rfl ?_
  intro hok
  simp only [go_sem] at hok
  simp only [Tryz.f129, Func.code, Option.getD_some]
  simp only [go_sem]
  intro hm
  first | refine branch_ndec (fun h1 => ?_) (fun h1 => ?_) | refine branch_dec (fun h1 => ?_) (fun h1 => ?_) | refine branch_nbool (fun h1 => ?_) (fun h1 => ?_) | refine branch_split (fun h1 => ?_) (fun h1 => ?_)
  · simp only [go_sem, txs_long h1]
    try trivial
  simp only [go_sem]
  intro hm2
  refine call_lend ?_
  simp only [go_sem]
  refine callN.eq (ok130 l.length (by omega)) (by simp only [go_sem]) ?_
  simp only [go_sem]
  have hl : l.length ≤ 200 := by omega
  intro hm3
  refine vm_loopK (α := Nat) (fun i => [(12, .lst false 1 (l.map strA)), (13, .lit (.int .i64 l.length)), (3, .lst true 1 ((txsN l i).map byteA)), (14, .lit (.int .i64 i))]) (fun i => i ≤ l.length ∧ ∀ j, j < i → (l.getD j default).size ≤ 3000) (fun i => l.length - i) 0 ?_ ⟨by omega, fun j hj => by omega⟩ (by kernel_rfl) (fun _ => rfl) ?_
  · simp only [go_sem, txsN_zero]
    try trivial
  · rintro i ⟨hi, he⟩ hk
    simp only [go_sem]
    first | refine branch_ndec (fun h6 => ?_) (fun h6 => ?_) | refine branch_dec (fun h6 => ?_) (fun h6 => ?_) | refine branch_nbool (fun h6 => ?_) (fun h6 => ?_) | refine branch_split (fun h6 => ?_) (fun h6 => ?_)
    rotate_left
    · have hie : i = l.length := by omega
      subst hie
      simp only [go_sem, txsOk_all hl he]
      try trivial
    have hlt : i < l.length := by omega
    have h0 : (0 : Int) ≤ (i : Int) := by omega
    have hw3 : IntKind.i64.wrap ((i : Int) + 1) = ((i + 1 : Nat) : Int) := by rw [wrap64 (by omega) (by omega)]; omega
    have hlen := txsN_len hl hi he
    simp only [go_sem, h0, hlt, h6]
    intro _
    first | refine branch_ndec (fun h7 => ?_) (fun h7 => ?_) | refine branch_dec (fun h7 => ?_) (fun h7 => ?_) | refine branch_nbool (fun h7 => ?_) (fun h7 => ?_) | refine branch_split (fun h7 => ?_) (fun h7 => ?_)
    · simp only [go_sem, txsOk_bad hlt h7]
      try trivial
    · have hsz : (l.getD i default).size ≤ 3000 := by omega
      have hlen2 := txtB_len hsz
      simp only [go_sem, h0, hlt, h6]
      refine call_lend ?_
      simp only [go_sem]
      refine callN.eq (ok150 (l.getD i default) hsz) (by simp only [go_sem]) ?_
      simp only [go_sem]
      refine ⟨by omega, ?_⟩
      rw [hw3]
      refine again_intro (i + 1) ⟨by omega, fun j hj => ?_⟩ (by omega) ?_
      · by_cases hji : j < i
        · exact he j hji
        · have : j = i := by omega
          subst this
          exact hsz
      · simp only [go_sem]
        rw [txsN_succ hlt, List.map_append]
        try trivial
end Go.VS

set_option linter.unusedSimpArgs false
set_option linter.unusedVariables false
open Go.Proofs
set_option maxRecDepth 20000
namespace Go.VS
theorem f87_at : gz.P.funcs[87]? = some Tryz.f87 := by
  have h : Tryz.prog.funcs[87]? = some Tryz.f87 := by kernel_rfl
  exact h
/-- the numbers of a block, with the first i of those who sign -/
def shL (b : Blk) (i : Nat) : List Int := [b.view, b.parent, b.proof.view, b.proof.name, (b.proof.bys.length : Int)] ++ ((List.range i).map fun j => [b.proof.bys.getD j default, b.proof.tags.getD j default]).flatten
theorem shL_zero {b : Blk} : shL b 0 = [b.view, b.parent, b.proof.view, b.proof.name, (b.proof.bys.length : Int)] := rfl
theorem shL_succ {b : Blk} {i : Nat} : shL b (i + 1) = shL b i ++ [b.proof.bys.getD i default, b.proof.tags.getD i default] := by
  simp only [shL, List.range_succ, List.map_append, List.flatten_append, List.append_assoc, List.map_cons, List.map_nil, List.flatten_cons, List.flatten_nil, List.append_nil]
theorem shL_len {b : Blk} : ∀ {i : Nat}, (shL b i).length = 5 + 2 * i
  | 0 => rfl
  | i + 1 => by rw [shL_succ, List.length_append, shL_len]; simp; omega
def inR (x : Int) : Prop := 0 ≤ x ∧ x ≤ 1099511627776
instance (x : Int) : Decidable (inR x) := inferInstanceAs (Decidable (_ ∧ _))
def nums (xs : List Int) : List UInt8 := (xs.map fun x => numB x.toNat).flatten
theorem nums_app {xs ys : List Int} : nums (xs ++ ys) = nums xs ++ nums ys := by simp [nums]
theorem nums_len : ∀ {xs : List Int}, (∀ x ∈ xs, inR x) → (nums xs).length ≤ 9 * xs.length
  | [], _ => by simp [nums]
  | x :: xs, h => by
    have h1 := nums_len (xs := xs) fun y hy => h y (by simp [hy])
    have h2 := h x (by simp)
    unfold inR at h2
    have h3 := numB_len9 (n := x.toNat) (by omega)
    have e : nums (x :: xs) = numB x.toNat ++ nums xs := rfl
    rw [e, List.length_append, List.length_cons]
    omega
def Blk.shOk (b : Blk) : Prop := (b.proof.bys.length ≤ 7 ∧ b.proof.bys.length = b.proof.tags.length) ∧ (∀ x ∈ shL b b.proof.bys.length, inR x) ∧ txs b.moves ≠ [] ∧ inR b.bY
instance (b : Blk) : Decidable b.shOk := inferInstanceAs (Decidable (_ ∧ _))
/-- a block, written out -/
def Blk.shB (b : Blk) : List UInt8 := nums (shL b b.proof.bys.length) ++ txs b.moves ++ numB b.bY.toNat
def Blk.sh (b : Blk) : ByteArray := if b.shOk then ⟨b.shB.toArray⟩ else ⟨#[]⟩
theorem Blk.sh_no {b : Blk} (h : ¬ b.shOk) : b.sh = ⟨#[]⟩ := if_neg h
theorem Blk.sh_yes {b : Blk} (h : b.shOk) : b.sh = ⟨b.shB.toArray⟩ := if_pos h
theorem strOfA_3 {A B C : List UInt8} : strOfA (List.take (A.length + B.length + C.length) (A.map byteA ++ B.map byteA ++ C.map byteA)) = some (A ++ B ++ C) := by
  rw [← List.map_append, ← List.map_append, List.take_of_length_le (by simp only [List.length_map, List.length_append]; omega)]
  exact strOfA_map
set_option maxHeartbeats 2000000 in
theorem ok87 (b : Blk) : VCalls gz 87 [b.enc false] none (fun y _ => y = .lit (.string b.sh)) := by
  refine VCalls.go (nt := 102) (keep := [0, 1, 2, 3, 4, 5, 6, 7, 38, 44, 66, 74, 93]) (muts := []) (mvs := []) [(7, .tree false (.take 0 (.take 1 (.take 2 (.take 4 (.take 7 (.take 8 (.take 10 (.all (.cons 3 (.take 5 (.all (.cons 6 (.all (.cons 9 (.take 11 (.all (.cons 12 (.all (.cons 13 (.all (.cons 14 (.all (.cons 15 .done .nil)) .nil)) .nil)) .nil))) .nil)) (.cons 9 (.take 11 (.all (.cons 6 (.all (.cons 12 (.all (.cons 13 (.all (.cons 14 (.all (.cons 15 .done .nil)) .nil)) .nil)) .nil)) (.cons 12 (.all (.cons 6 (.all (.cons 13 (.all (.cons 14 (.all (.cons 15 .done .nil)) .nil)) .nil)) .nil)) .nil)))) .nil)))) (.cons 9 (.take 11 (.all (.cons 3 (.take 5 (.all (.cons 6 (.all (.cons 12 (.all (.cons 13 (.all (.cons 14 (.all (.cons 15 .done .nil)) .nil)) .nil)) .nil)) (.cons 12 (.all (.cons 6 (.all (.cons 13 (.all (.cons 14 (.all (.cons 15 .done .nil)) .nil)) .nil)) .nil)) .nil)))) (.cons 12 (.all (.cons 3 (.take 5 (.all (.cons 6 (.all (.cons 13 (.all (.cons 14 (.all (.cons 15 .done .nil)) .nil)) .nil)) .nil))) .nil)) .nil)))) .nil))))))))))), (18, .tree false (.take 0 (.take 1 (.take 3 (.all (.cons 2 (.all (.cons 4 (.all (.cons 5 (.all (.cons 6 (.all (.cons 7 (.all (.cons 8 .done .nil)) .nil)) .nil)) .nil)) .nil)) (.cons 4 (.all (.cons 2 (.all (.cons 5 (.all (.cons 6 (.all (.cons 7 (.all (.cons 8 .done .nil)) .nil)) .nil)) .nil)) .nil)) .nil)))))))] f87_at rfl (by kernel_rfl) rfl (by kernel_rfl) rfl (fun i h => by cases h) rfl ?_
  intro hok
  simp only [go_sem] at hok
  simp only [Tryz.f87, Func.code, Option.getD_some]
  simp only [go_sem]
  intro hm
  by_cases h1 : 7 < (b.proof.bys.length : Int)
  · have : b.sh = ⟨#[]⟩ := Blk.sh_no fun h => by have := h.1.1; omega
    simp only [go_sem, h1, this]
  simp only [go_sem, h1]
  intro hm2 hm3
  by_cases h2 : (b.proof.bys.length : Int) = (b.proof.tags.length : Int)
  rotate_left
  · have : b.sh = ⟨#[]⟩ := Blk.sh_no fun h => by have := h.1.2; omega
    simp only [go_sem, h2, this]
  simp only [go_sem, eq_true h2]
  intro hm4
  have hl7 : b.proof.bys.length ≤ 7 := by omega
  have hl2 : b.proof.bys.length = b.proof.tags.length := by omega
  refine vm_loopK (α := Nat) (fun i => [(1, .ptr true (b.enc false)), (2, .lit (.string ⟨#[]⟩)), (3, .lst true 1 ((shL b i).map intA)), (4, .lit (.int .i64 i))]) (fun i => i ≤ b.proof.bys.length) (fun i => b.proof.bys.length - i) 0 ?_ (by omega) (by kernel_rfl) (fun _ => rfl) ?_
  · simp only [go_sem, shL_zero]
    try rfl
  · intro i hi hk
    simp only [go_sem]
    intro _
    first | refine branch_ndec (fun h6 => ?_) (fun h6 => ?_) | refine branch_dec (fun h6 => ?_) (fun h6 => ?_) | refine branch_nbool (fun h6 => ?_) (fun h6 => ?_) | refine branch_split (fun h6 => ?_) (fun h6 => ?_)
    · have hlt : i < b.proof.bys.length := by omega
      have hlt2 : i < b.proof.tags.length := by omega
      have h0 : (0 : Int) ≤ (i : Int) := by omega
      have h6b : (i : Int) < (b.proof.tags.length : Int) := by omega
      have hw3 : IntKind.i64.wrap ((i : Int) + 1) = ((i + 1 : Nat) : Int) := by rw [wrap64 (by omega) (by omega)]; omega
      have hsl := shL_len (b := b) (i := i)
      simp only [go_sem, h0, hlt, h6, hlt2, h6b, hw3]
      refine ⟨by omega, ?_⟩
      refine again_intro (i + 1) (by omega) (by omega) ?_
      simp only [go_sem]
      rw [shL_succ, List.map_append]
      try rfl
    · have hie : i = b.proof.bys.length := by omega
      subst hie
      simp only [go_sem]
      have hsl := shL_len (b := b) (i := b.proof.bys.length)
      obtain ⟨L, hL⟩ : ∃ L, L = shL b b.proof.bys.length := ⟨_, rfl⟩
      rw [← hL] at hsl ⊢
      refine vm_loopK (α := Nat) (fun k => [(1, .ptr true (b.enc false)), (2, .lit (.string ⟨#[]⟩)), (3, .lst true 1 (L.map intA)), (5, .lst true 1 ((nums (L.take k)).map byteA)), (6, .lit (.int .i64 k))]) (fun k => k ≤ L.length ∧ ∀ j, j < k → inR (L.getD j default)) (fun k => L.length - k) 0 ?_ ⟨by omega, fun j hj => by omega⟩ (by kernel_rfl) (fun _ => rfl) ?_
      · simp only [go_sem]
        exact ⟨rfl, rfl⟩
      · rintro k ⟨hk2, hin⟩ hkk
        simp only [go_sem]
        intro _
        first | refine branch_ndec (fun h8 => ?_) (fun h8 => ?_) | refine branch_dec (fun h8 => ?_) (fun h8 => ?_) | refine branch_nbool (fun h8 => ?_) (fun h8 => ?_) | refine branch_split (fun h8 => ?_) (fun h8 => ?_)
        · have hlt : k < L.length := by omega
          have h0 : (0 : Int) ≤ (k : Int) := by omega
          have hw3 : IntKind.i64.wrap ((k : Int) + 1) = ((k + 1 : Nat) : Int) := by rw [wrap64 (by omega) (by omega)]; omega
          simp only [go_sem, h0, hlt, h8]
          refine call_lend ?_
          simp only [go_sem]
          refine callN.eq (ok38 (L.getD k default) 0 1099511627776) (by simp only [go_sem]) ?_
          simp only [go_sem]
          by_cases h9 : 0 ≤ L.getD k default ∧ L.getD k default ≤ 1099511627776
          rotate_left
          · have : b.sh = ⟨#[]⟩ := Blk.sh_no fun h => h9 (h.2.1 _ (by rw [← hL]; exact getD_mem hlt))
            simp only [go_sem, eq_false h9, this]
          simp only [go_sem, eq_true h9, h0, hlt, h8]
          obtain ⟨m, hmm⟩ := Int.eq_ofNat_of_zero_le h9.1
          simp only [go_sem, hmm]
          refine call_lend ?_
          simp only [go_sem]
          refine callN.eq (ok126 m (by omega)) (by simp only [go_sem]) ?_
          simp only [go_sem]
          have hl9 := numB_len9 (n := m) (by omega)
          have hnl := nums_len (xs := L.take k) (fun x hx => by
            obtain ⟨j, hj, rfl⟩ := List.mem_iff_getElem.1 hx
            rw [List.length_take] at hj
            have := hin j (by omega)
            rw [List.getElem_take]
            simpa [List.getD, show j < L.length by omega] using this)
          rw [List.length_take] at hnl
          refine ⟨by omega, ?_⟩
          rw [hw3]
          refine again_intro (k + 1) ⟨by omega, fun j hj => ?_⟩ (by omega) ?_
          · by_cases hji : j < k
            · exact hin j hji
            · have : j = k := by omega
              subst this
              exact h9
          · simp only [go_sem]
            rw [take_succ_getD hlt, nums_app, List.map_append, hmm]
            have e : nums [(m : Int)] = numB m := by simp [nums]
            rw [e]
            try trivial
        · have hke : k = L.length := by omega
          subst hke
          simp only [go_sem]
          refine call_lend ?_
          simp only [go_sem]
          refine callN.eq (ok127 b.moves) (by simp only [go_sem]) ?_
          simp only [go_sem]
          intro hm5
          have htl := txs_len (l := b.moves)
          by_cases ht : ((txs b.moves).length : Int) = 0
          · have : b.sh = ⟨#[]⟩ := Blk.sh_no fun h => h.2.2.1 (List.eq_nil_of_length_eq_zero (by omega))
            simp only [go_sem, eq_true ht, this]
          simp only [go_sem, ht]
          refine call_lend ?_
          simp only [go_sem]
          refine callN.eq (ok38 b.bY 0 1099511627776) (by simp only [go_sem]) ?_
          simp only [go_sem]
          by_cases hb : 0 ≤ b.bY ∧ b.bY ≤ 1099511627776
          rotate_left
          · have : b.sh = ⟨#[]⟩ := Blk.sh_no fun h => hb h.2.2.2
            simp only [go_sem, eq_false hb, this]
          simp only [go_sem, eq_true hb]
          have hall : ∀ x ∈ L, inR x := fun x hx => by
            obtain ⟨j, hj, rfl⟩ := List.mem_iff_getElem.1 hx
            have := hin j hj
            simpa [List.getD, hj] using this
          have hsh : b.shOk := ⟨⟨hl7, hl2⟩, by rw [← hL]; exact hall, fun h => ht (by rw [h]; rfl), hb⟩
          have hnl := nums_len hall
          obtain ⟨m, hmm⟩ := Int.eq_ofNat_of_zero_le hb.1
          have hl9 := numB_len9 (n := m) (by omega)
          simp only [go_sem, hmm]
          repeat' refine And.intro ?_ ?_
          all_goals try omega
          all_goals
            refine call_lend ?_
            simp only [go_sem]
            refine callN.eq (ok126 m (by omega)) (by simp only [go_sem]) ?_
            simp only [go_sem]
            refine ⟨by omega, ?_⟩
            simp only [go_sem, strOfA_3]
            rw [Blk.sh_yes hsh, Blk.shB, ← hL, hmm]
            rfl
end Go.VS
