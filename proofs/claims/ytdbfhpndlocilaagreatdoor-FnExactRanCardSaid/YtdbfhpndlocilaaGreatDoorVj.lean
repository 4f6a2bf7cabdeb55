/- VS: functions by the machine. -/
import Derived.Test.YtdbfhpndlocilaaGreatDoorVi
import Derived.Test.YtdbfhpndlocilaaGreatDoorVf
set_option linter.unusedSimpArgs false
set_option linter.unusedVariables false
open Go.Proofs
set_option maxRecDepth 20000
namespace Go.VS
theorem f112_at : gz.P.funcs[112]? = some Tryz.f112 := by
  have h : Tryz.prog.funcs[112]? = some Tryz.f112 := by kernel_rfl
  exact h
def encP (q : Bool × Blk) : AVal := q.2.enc q.1
theorem encP_eq {q : Bool × Blk} : encP q = q.2.enc q.1 := nr rfl
attribute [go_sem] encP_eq
def mixL (xs : List Blk) (i : Nat) : List (Bool × Blk) := (xs.take i).map (fun b => (true, b)) ++ (xs.drop i).map (fun b => (false, b))
theorem mixL_zero {xs : List Blk} : (mixL xs 0).map encP = xs.map (Blk.enc false) := by
  simp only [mixL, List.take_zero, List.map_nil, List.nil_append, List.drop_zero, List.map_map]
  rfl
theorem mixL_all {xs : List Blk} : (mixL xs xs.length).map encP = xs.map (Blk.enc true) := by
  simp only [mixL, List.take_length, List.drop_length, List.map_nil, List.append_nil, List.map_map]
  rfl
theorem mixL_len {xs : List Blk} {i : Nat} (h : i ≤ xs.length) : (mixL xs i).length = xs.length := by
  simp only [mixL, List.length_append, List.length_map, List.length_take, List.length_drop]
  omega
theorem mixL_get {xs : List Blk} {i : Nat} (h : i < xs.length) : (mixL xs i).getD i default = (false, xs.getD i default) := by
  simp only [mixL, List.getD]
  rw [List.getElem?_append_right (by simp only [List.length_map, List.length_take]; omega)]
  simp only [List.length_map, List.length_take, Nat.min_eq_left (Nat.le_of_lt h), Nat.sub_self, List.getElem?_map, List.getElem?_drop, Nat.add_zero, List.getElem?_eq_getElem h, Option.map_some, Option.getD_some]
theorem mixL_set {xs : List Blk} {i : Nat} (h : i < xs.length) : (mixL xs i).set i (true, xs.getD i default) = mixL xs (i + 1) := by
  have hd : xs.drop i = xs.getD i default :: xs.drop (i + 1) := by
    rw [List.drop_eq_getElem_cons h]
    simp [List.getD, h]
  have hl : ((xs.take i).map (fun b => (true, b))).length = i := by simp only [List.length_map, List.length_take]; omega
  rw [mixL, hd, List.map_cons, List.set_append_right _ _ (by omega), hl, Nat.sub_self, List.set_cons_zero, mixL, take_succ_getD h, List.map_append, List.append_assoc]
  rfl
def Rpl.hold (r : Rpl) : Prop := r.high.sz ≤ 1048576 ∧ r.blocks.length ≤ 1048576 ∧ (∀ i, i < r.blocks.length → Blk.sz (r.blocks.getD i default) ≤ 1048576) ∧ r.votes.length ≤ 1048576 ∧ r.news.length ≤ 1048576 ∧ r.done.length ≤ 1048576
set_option maxHeartbeats 2000000 in
theorem ok112 (r : Rpl) (hr : r.hold) : VCalls gz 112 [r.enc false] none (fun y _ => y = r.enc true) := by
  obtain ⟨g1, g2, g3, g4, g5, g6⟩ := hr
  refine VCalls.go (nt := 42) (keep := [0, 1, 2, 3, 14, 15, 16]) (muts := []) (mvs := [1,2,6,8,9,10,11]) [(6, .tree false (.take 0 (.take 2 (.take 3 (.take 5 (.all (.cons 1 (.all (.cons 4 (.take 6 (.all (.cons 7 (.all (.cons 8 (.take 9 (.all (.cons 10 .done .nil))) .nil)) .nil))) .nil)) (.cons 4 (.take 6 (.all (.cons 1 (.all (.cons 7 (.all (.cons 8 (.take 9 (.all (.cons 10 .done .nil))) .nil)) .nil)) (.cons 7 (.all (.cons 1 (.all (.cons 8 (.take 9 (.all (.cons 10 .done .nil))) .nil)) (.cons 8 (.all (.cons 1 (.take 9 (.all (.cons 10 .done .nil))) .nil)) .nil))) .nil)))) .nil))))))))] f112_at rfl (by kernel_rfl) rfl (by kernel_rfl) rfl (fun i h => by cases h) rfl ?_
  intro hok
  simp only [go_sem] at hok
  simp only [Tryz.f112, Func.code, Option.getD_some]
  simp only [go_sem]
  refine call_lend ?_
  simp only [go_sem]
  refine callN.eq (ok146 r.high g1) (by simp only [go_sem]) ?_
  simp only [go_sem]
  refine call_share ?_
  simp only [go_sem]
  refine callS.eq (ok147 r.blocks (by omega)) ?_
  simp only [go_sem]
  intro hm
  refine vm_loopK (α := Nat) (fun i => [(1, .ptr true (.agg [.lit (.int .i64 r.id), .lit (.int .i64 r.n), .lit (.int .i64 r.view), .lit (.int .i64 r.voted), .lit (.int .i64 r.locked), .lit (.int .i64 r.proposed), r.high.enc true, .lst true 8 ((mixL r.blocks i).map encP), .lst false 4 (r.votes.map Vot.enc), .lst false 2 (r.news.map Nws.enc), .lst false 1 (r.done.map intA)])), (2, .ptr true (Rpl.enc true ⟨0, 0, 0, 0, 0, 0, default, [], [], [], []⟩)), (14, .lit (.int .i64 r.blocks.length)), (15, .lit (.int .i64 i))]) (fun i => i ≤ r.blocks.length) (fun i => r.blocks.length - i) 0 ?_ (by omega) (by kernel_rfl) (fun _ => rfl) ?_
  · simp only [go_sem]
    exact ⟨mixL_zero.symm, ⟨rfl, rfl, rfl, rfl⟩, rfl⟩
  · intro i hi hk
    simp only [go_sem]
    first | refine branch_ndec (fun h6 => ?_) (fun h6 => ?_) | refine branch_dec (fun h6 => ?_) (fun h6 => ?_) | refine branch_nbool (fun h6 => ?_) (fun h6 => ?_) | refine branch_split (fun h6 => ?_) (fun h6 => ?_)
    · have hlt : i < r.blocks.length := by omega
      have h0 : (0 : Int) ≤ (i : Int) := by omega
      have hml := mixL_len hi
      have hg := mixL_get hlt
      have h7 : (i : Int) < ((mixL r.blocks i).length : Int) := by omega
      have h8 : i < (mixL r.blocks i).length := by omega
      have hw3 : IntKind.i64.wrap ((i : Int) + 1) = ((i + 1 : Nat) : Int) := by rw [wrap64 (by omega) (by omega)]; omega
      simp only [go_sem, h0, h7, h8, hg]
      repeat' refine And.intro ?_ ?_
      all_goals
        refine call_lend ?_
        simp only [go_sem]
        refine callN.eq (ok148 (r.blocks.getD i default) (g3 i hlt)) (by simp only [go_sem]) ?_
        simp only [go_sem]
        simp only [go_sem, h0, h7, h8, hg, hw3]
        refine again_intro (i + 1) (by omega) (by omega) ?_
        simp only [go_sem]
        exact (modify_enc (f := encP) (v := (true, r.blocks.getD i default)) rfl).trans (by rw [mixL_set hlt])
    · have hie : i = r.blocks.length := by omega
      subst hie
      simp only [go_sem, mixL_all]
      refine call_lend ?_
      simp only [go_sem]
      refine callN.eq (ok149 r.votes (by omega)) (by simp only [go_sem]) ?_
      simp only [go_sem]
      refine call_lend ?_
      simp only [go_sem]
      refine callN.eq (ok150 r.news (by omega)) (by simp only [go_sem]) ?_
      simp only [go_sem]
      refine call_lend ?_
      simp only [go_sem]
      refine callN.eq (ok76 r.done (by omega)) (by simp only [go_sem]) ?_
      simp only [go_sem]
end Go.VS
set_option linter.unusedSimpArgs false
set_option linter.unusedVariables false
open Go.Proofs
set_option maxRecDepth 20000
namespace Go.VS
theorem blkNoRefs {own : Bool} {xs : List Blk} : noRefs (xs.map (Blk.enc own)) = true := noRefs_map fun x => by simp only [go_sem]
theorem blkClosed {xs : List Blk} : closedAs (xs.map (Blk.enc true)) = true := closedAs_map fun x => by simp only [go_sem]
theorem blkFlat {xs : List Blk} : flatAs (xs.map (Blk.enc false)) = true := flatAs_map fun x => by simp only [go_sem]
theorem blkShds {own : Bool} {xs : List Blk} : toShds (xs.map (Blk.enc own)) = xs.map (Blk.enc false) := toShds_mapTo fun x => by cases own <;> simp only [go_sem]
attribute [go_sem] blkNoRefs blkClosed blkFlat blkShds
end Go.VS
set_option linter.unusedSimpArgs false
set_option linter.unusedVariables false
open Go.Proofs
set_option maxRecDepth 20000
namespace Go.VS
theorem f136_at : gz.P.funcs[136]? = some Tryz.f136 := by
  have h : Tryz.prog.funcs[136]? = some Tryz.f136 := by kernel_rfl
  exact h
theorem f96_at : gz.P.funcs[96]? = some Tryz.f96 := by
  have h : Tryz.prog.funcs[96]? = some Tryz.f96 := by kernel_rfl
  exact h
theorem ok136 (p : Prf) (hp : p.sz ≤ 1048576) : VCalls gz 136 [p.enc false] none (fun y _ => y = p.enc true) := by
  have hp2 : p.bys.length + p.tags.length ≤ 1048576 := hp
  refine VCalls.go (nt := 14) (keep := [0, 1, 2]) (muts := []) (mvs := [3]) [] f136_at rfl (by kernel_rfl) rfl (by kernel_rfl) rfl (fun i h => by cases h) rfl ?_
  intro hok
  simp only [go_sem] at hok
  simp only [Tryz.f136, Func.code, Option.getD_some]
  simp only [go_sem]
  omega
theorem ok96 (b : Blk) (hb : b.sz ≤ 1048576) : VCalls gz 96 [b.enc false] none (fun y _ => y = b.enc true) := by
  have hb2 : b.proof.sz + szL ByteArray.size b.moves ≤ 1048576 := hb
  simp only [szL] at hb2
  refine VCalls.go (nt := 13) (keep := [0, 1, 2]) (muts := []) (mvs := [3]) [] f96_at rfl (by kernel_rfl) rfl (by kernel_rfl) rfl (fun i h => by cases h) rfl ?_
  intro hok
  simp only [go_sem] at hok
  simp only [Tryz.f96, Func.code, Option.getD_some]
  simp only [go_sem]
  refine call_lend ?_
  simp only [go_sem]
  refine callN.eq (ok136 b.proof (by omega)) (by simp only [go_sem]) ?_
  simp only [go_sem]
  omega
end Go.VS
set_option linter.unusedSimpArgs false
set_option linter.unusedVariables false
open Go.Proofs
set_option maxRecDepth 20000
namespace Go.VS
theorem f162_at : gz.P.funcs[162]? = some Tryz.f162 := by
  have h : Tryz.prog.funcs[162]? = some Tryz.f162 := by kernel_rfl
  exact h
theorem f172_at : gz.P.funcs[172]? = some Tryz.f172 := by
  have h : Tryz.prog.funcs[172]? = some Tryz.f172 := by kernel_rfl
  exact h
def numB (n : Nat) : List UInt8 := if h : n < 128 then [UInt8.ofNat n] else UInt8.ofNat (n % 128 + 128) :: numB (n / 128)
termination_by n
theorem numB_lt {n : Nat} (h : n < 128) : numB n = [UInt8.ofNat n] := by rw [numB, dif_pos h]
theorem numB_ge {n : Nat} (h : ¬ n < 128) : numB n = UInt8.ofNat (n % 128 + 128) :: numB (n / 128) := by rw [numB, dif_neg h]
theorem numB_len : ∀ (k n : Nat), n < 128 ^ (k + 1) → (numB n).length ≤ k + 1
  | 0, n, h => by rw [numB_lt (by omega)]; simp
  | k + 1, n, h => by
    by_cases hn : n < 128
    · rw [numB_lt hn]; simp
    · rw [numB_ge hn]
      have := numB_len k (n / 128) (by rw [Nat.div_lt_iff_lt_mul (by omega)]; rw [Nat.pow_succ] at h; exact h)
      simp only [List.length_cons]
      omega
theorem numB_len9 {n : Nat} (h : n ≤ 4611686018427387904) : (numB n).length ≤ 9 := numB_len 8 n (by omega)
theorem orI_128 (m : Nat) : orI .u8 (IntKind.u8.wrap (m : Int)) 128 = ((m % 128 + 128 : Nat) : Int) := by
  have h : ∀ a : Fin 256, orI .u8 (a.val : Int) 128 = ((a.val % 128 + 128 : Nat) : Int) := by decide
  have h2 : IntKind.u8.wrap (m : Int) = ((m % 256 : Nat) : Int) := by
    simp [IntKind.wrap, IntKind.bits, IntKind.signed]
  rw [h2]
  have := h ⟨m % 256, by omega⟩
  rw [this]
  simp only
  omega
theorem shr_7 (m : Nat) : shrI .i64 (m : Int) 7 = ((m / 128 : Nat) : Int) := by
  have : shrI .i64 (m : Int) 7 = (m : Int).fdiv 128 := rfl
  rw [this, Int.fdiv_eq_ediv_of_nonneg _ (by omega)]
  omega
theorem u8_of {k : Nat} (h : k < 256) : (UInt8.ofNat k).toNat = k := by simp [UInt8.toNat_ofNat']; omega
theorem byteA_of {k : Nat} (h : k < 256) : byteA (UInt8.ofNat k) = .lit (.int .u8 k) := by
  have : (UInt8.ofNat k).toNat = k := by simp [UInt8.toNat_ofNat']; omega
  rw [byteA_eq, this]
theorem numB_step {pre : List UInt8} {m n : Nat} (he : pre ++ numB m = numB n) (hg : ¬ m < 128) : (pre ++ [UInt8.ofNat (m % 128 + 128)]) ++ numB (m / 128) = numB n := by
  rw [← he, numB_ge hg, List.append_assoc]
  rfl
theorem ok162 (n : Nat) (hn : n ≤ 4611686018427387904) : VCalls gz 162 [.lit (.int .i64 n)] none (fun y _ => y = .lst true 1 ((numB n).map byteA)) := by
  refine VCalls.go (nt := 21) (keep := [0, 2, 3, 6]) (muts := []) (mvs := []) [] f162_at rfl (by kernel_rfl) rfl (by kernel_rfl) rfl (fun i h => by cases h) rfl ?_
  intro hok
  simp only [go_sem] at hok
  simp only [Tryz.f162, Func.code, Option.getD_some]
  simp only [go_sem]
  have hn9 := numB_len9 hn
  refine vm_loopK (α := List UInt8 × Nat) (fun q => [(0, .lit (.int .i64 q.2)), (3, .lst true 1 (q.1.map byteA))]) (fun q => q.1 ++ numB q.2 = numB n ∧ q.2 ≤ n) (fun q => q.2) ([], n) ?_ ⟨rfl, Nat.le_refl _⟩ (by kernel_rfl) (fun _ => rfl) ?_
  · simp only [go_sem]
    try trivial
  · rintro ⟨pre, m⟩ ⟨he, hm⟩ hk
    simp only at he hm
    have hpl : pre.length ≤ 9 := by
      have := congrArg List.length he
      rw [List.length_append] at this
      omega
    simp only [go_sem]
    first | refine branch_ndec (fun h1 => ?_) (fun h1 => ?_) | refine branch_dec (fun h1 => ?_) (fun h1 => ?_) | refine branch_nbool (fun h1 => ?_) (fun h1 => ?_) | refine branch_split (fun h1 => ?_) (fun h1 => ?_)
    · have e1 : IntKind.u8.wrap (IntKind.i64.wrap ((m : Int).tmod 128 + 128)) = ((m % 128 + 128 : Nat) : Int) := by
        rw [Int.tmod_eq_emod_of_nonneg (by omega), wrap64 (by omega) (by omega), wrapU8 (by omega) (by omega)]
        omega
      have e2 : IntKind.i64.wrap ((m : Int).tdiv 128) = ((m / 128 : Nat) : Int) := by
        rw [Int.tdiv_eq_ediv_of_nonneg (by omega), wrap64 (by omega) (by omega)]
        omega
      simp only [go_sem, e1, e2]
      refine ⟨by omega, ?_⟩
      refine again_intro (pre ++ [UInt8.ofNat (m % 128 + 128)], m / 128) ⟨numB_step he (by omega), by show m / 128 ≤ n; omega⟩ (by show m / 128 < m; omega) ?_
      simp only [go_sem]
      rw [u8_of (by omega)]
    · have e1 : IntKind.u8.wrap (m : Int) = (m : Int) := wrapU8 (by omega) (by omega)
      simp only [go_sem, e1]
      refine ⟨by omega, ?_⟩
      rw [← he, numB_lt (by omega), List.map_append, List.map_cons, List.map_nil, byteA_of (by omega)]
theorem ok172 (n : Nat) (hn : n ≤ 1099511627776) : VCalls gz 172 [.lit (.int .i64 n)] none (fun y _ => y = .lst true 1 ((numB n).map byteA)) := by
  refine VCalls.go (nt := 23) (keep := [0, 2, 3, 6, 9]) (muts := []) (mvs := []) [] f172_at rfl (by kernel_rfl) rfl (by kernel_rfl) rfl (fun i h => by cases h) rfl ?_
  intro hok
  simp only [go_sem] at hok
  simp only [Tryz.f172, Func.code, Option.getD_some]
  simp only [go_sem]
  have hn9 := numB_len9 (n := n) (by omega)
  have hin : 0 ≤ (n : Int) ∧ (n : Int) ≤ 1099511627776 := by omega
  refine call_lend ?_
  simp only [go_sem]
  refine callN.eq (ok50 n 0 1099511627776) (by simp only [go_sem]) ?_
  simp only [go_sem]
  simp only [go_sem, eq_true hin]
  refine vm_loopK (α := List UInt8 × Nat) (fun q => [(0, .lit (.int .i64 q.2)), (3, .lst true 1 (q.1.map byteA))]) (fun q => q.1 ++ numB q.2 = numB n ∧ q.2 ≤ n) (fun q => q.2) ([], n) ?_ ⟨rfl, Nat.le_refl _⟩ (by kernel_rfl) (fun _ => rfl) ?_
  · simp only [go_sem]
    try trivial
  · rintro ⟨pre, m⟩ ⟨he, hm⟩ hk
    simp only at he hm
    have hpl : pre.length ≤ 9 := by
      have := congrArg List.length he
      rw [List.length_append] at this
      omega
    simp only [go_sem]
    first | refine branch_ndec (fun h1 => ?_) (fun h1 => ?_) | refine branch_dec (fun h1 => ?_) (fun h1 => ?_) | refine branch_nbool (fun h1 => ?_) (fun h1 => ?_) | refine branch_split (fun h1 => ?_) (fun h1 => ?_)
    · simp only [go_sem, orI_128, shr_7]
      refine ⟨by omega, ?_⟩
      refine again_intro (pre ++ [UInt8.ofNat (m % 128 + 128)], m / 128) ⟨numB_step he (by omega), by show m / 128 ≤ n; omega⟩ (by show m / 128 < m; omega) ?_
      simp only [go_sem]
      rw [u8_of (by omega)]
    · have e1 : IntKind.u8.wrap (m : Int) = (m : Int) := wrapU8 (by omega) (by omega)
      simp only [go_sem, e1]
      refine ⟨by omega, ?_⟩
      rw [← he, numB_lt (by omega), List.map_append, List.map_cons, List.map_nil, byteA_of (by omega)]
end Go.VS
set_option linter.unusedSimpArgs false
set_option linter.unusedVariables false
open Go.Proofs
set_option maxRecDepth 20000
namespace Go.VS
theorem f184_at : gz.P.funcs[184]? = some Tryz.f184 := by
  have h : Tryz.prog.funcs[184]? = some Tryz.f184 := by kernel_rfl
  exact h
theorem f187_at : gz.P.funcs[187]? = some Tryz.f187 := by
  have h : Tryz.prog.funcs[187]? = some Tryz.f187 := by kernel_rfl
  exact h
theorem f163_at : gz.P.funcs[163]? = some Tryz.f163 := by
  have h : Tryz.prog.funcs[163]? = some Tryz.f163 := by kernel_rfl
  exact h
theorem f171_at : gz.P.funcs[171]? = some Tryz.f171 := by
  have h : Tryz.prog.funcs[171]? = some Tryz.f171 := by kernel_rfl
  exact h
def txtB (s : ByteArray) : List UInt8 := numB s.size ++ s.data.toList
theorem txtB_len {s : ByteArray} (hs : s.size ≤ 3000) : (txtB s).length ≤ 3009 := by
  have h1 := numB_len9 (n := s.size) (by omega)
  have h2 : s.data.toList.length = s.size := (bsz s).symm
  simp only [txtB, List.length_append]
  omega
theorem ok184 (s : ByteArray) (hs : s.size ≤ 3000) : VCalls gz 184 [.lit (.string s)] none (fun y _ => y = .lst true 1 ((txtB s).map byteA)) := by
  refine VCalls.go (nt := 8) (keep := [0, 2]) (muts := []) (mvs := []) [] f184_at rfl (by kernel_rfl) rfl (by kernel_rfl) rfl (fun i h => by cases h) rfl ?_
  intro hok
  simp only [go_sem] at hok
  simp only [Tryz.f184, Func.code, Option.getD_some]
  simp only [go_sem]
  intro hm
  refine call_lend ?_
  simp only [go_sem]
  refine callN.eq (ok162 s.size (by omega)) (by simp only [go_sem]) ?_
  simp only [go_sem]
  have h1 := numB_len9 (n := s.size) (by omega)
  have h2 : s.data.toList.length = s.size := (bsz s).symm
  refine ⟨by omega, ?_⟩
  rw [txtB, List.map_append]
theorem ok187 (s : ByteArray) (hs : s.size ≤ 3000) : VCalls gz 187 [.lit (.string s)] none (fun y _ => y = .lst true 1 ((txtB s).map byteA)) := by
  refine VCalls.go (nt := 11) (keep := [0, 2, 5]) (muts := []) (mvs := []) [] f187_at rfl (by kernel_rfl) rfl (by kernel_rfl) rfl (fun i h => by cases h) rfl ?_
  intro hok
  simp only [go_sem] at hok
  simp only [Tryz.f187, Func.code, Option.getD_some]
  simp only [go_sem]
  intro hm
  have h3 : ¬ 3000 < (s.size : Int) := by omega
  simp only [go_sem, h3]
  intro hm2
  refine call_lend ?_
  simp only [go_sem]
  refine callN.eq (ok172 s.size (by omega)) (by simp only [go_sem]) ?_
  simp only [go_sem]
  have h1 := numB_len9 (n := s.size) (by omega)
  have h2 : s.data.toList.length = s.size := (bsz s).symm
  refine ⟨by omega, ?_⟩
  rw [txtB, List.map_append]
def txsN (l : List ByteArray) (i : Nat) : List UInt8 := numB l.length ++ ((l.take i).map txtB).flatten
def txsOk (l : List ByteArray) : Bool := decide (l.length ≤ 200) && l.all fun s => decide (s.size ≤ 3000)
def txs (l : List ByteArray) : List UInt8 := if txsOk l = true then txsN l l.length else []
theorem txsN_zero {l : List ByteArray} : txsN l 0 = numB l.length := by simp [txsN]
theorem txsN_succ {l : List ByteArray} {i : Nat} (h : i < l.length) : txsN l (i + 1) = txsN l i ++ txtB (l.getD i default) := by
  simp only [txsN, take_succ_getD h, List.map_append, List.flatten_append, List.append_assoc, List.map_cons, List.map_nil, List.flatten_cons, List.flatten_nil, List.append_nil]
theorem txsN_len {l : List ByteArray} (hl : l.length ≤ 200) : ∀ {i : Nat}, i ≤ l.length → (∀ j, j < i → (l.getD j default).size ≤ 3000) → (txsN l i).length ≤ 9 + i * 3009
  | 0, _, _ => by
    rw [txsN_zero]
    have := numB_len9 (n := l.length) (by omega)
    omega
  | i + 1, hi, h => by
    rw [txsN_succ (by omega), List.length_append]
    have h1 := txsN_len hl (i := i) (by omega) (fun j hj => h j (by omega))
    have h2 := txtB_len (h i (by omega))
    omega
theorem txs_len {l : List ByteArray} : (txs l).length ≤ 700000 := by
  unfold txs
  split
  · rename_i h
    simp only [txsOk, Bool.and_eq_true, decide_eq_true_eq, List.all_eq_true] at h
    have := txsN_len h.1 (Nat.le_refl _) (fun j hj => h.2 _ (getD_mem hj))
    omega
  · simp
theorem txsOk_bad {l : List ByteArray} {i : Nat} (hi : i < l.length) (h : 3000 < ((l.getD i default).size : Int)) : txs l = [] := by
  have : txsOk l = false := by
    have : l.all (fun s => decide (s.size ≤ 3000)) = false := List.all_eq_false.2 ⟨_, getD_mem hi, by simp only [decide_eq_true_eq]; omega⟩
    simp only [txsOk, this, Bool.and_false]
  simp only [txs, this, Bool.false_eq_true, if_false]
theorem txsOk_all {l : List ByteArray} (hl : l.length ≤ 200) (h : ∀ j, j < l.length → (l.getD j default).size ≤ 3000) : txs l = txsN l l.length := by
  have : txsOk l = true := by
    simp only [txsOk, Bool.and_eq_true, decide_eq_true_eq, List.all_eq_true]
    refine ⟨hl, fun x hx => ?_⟩
    obtain ⟨j, hj, rfl⟩ := List.mem_iff_getElem.1 hx
    have := h j hj
    simpa [List.getD, hj] using this
  simp only [txs, this, if_true]
theorem txs_long {l : List ByteArray} (h : 200 < (l.length : Int)) : txs l = [] := by
  have : txsOk l = false := by simp only [txsOk, decide_eq_false (show ¬ l.length ≤ 200 by omega), Bool.false_and]
  simp only [txs, this, Bool.false_eq_true, if_false]
theorem ok163 (l : List ByteArray) : VCalls gz 163 [.lst false 1 (l.map strA)] none (fun y _ => y = .lst true 1 ((txs l).map byteA)) := by
  refine VCalls.go (nt := 33) (keep := [0, 2, 3, 4, 7, 15, 23]) (muts := []) (mvs := []) [] f163_at rfl (by kernel_rfl) rfl (by kernel_rfl) rfl (fun i h => by cases h) rfl ?_
  intro hok
  simp only [go_sem] at hok
  simp only [Tryz.f163, Func.code, Option.getD_some]
  simp only [go_sem]
  intro hm
  first | refine branch_ndec (fun h1 => ?_) (fun h1 => ?_) | refine branch_dec (fun h1 => ?_) (fun h1 => ?_) | refine branch_nbool (fun h1 => ?_) (fun h1 => ?_) | refine branch_split (fun h1 => ?_) (fun h1 => ?_)
  · simp only [go_sem, txs_long h1]
    try trivial
  simp only [go_sem]
  intro hm2
  refine call_lend ?_
  simp only [go_sem]
  refine callN.eq (ok162 l.length (by omega)) (by simp only [go_sem]) ?_
  simp only [go_sem]
  have hl : l.length ≤ 200 := by omega
  refine vm_loopK (α := Nat) (fun i => [(0, .lst false 1 (l.map strA)), (3, .lst true 1 ((txsN l i).map byteA)), (4, .lit (.int .i64 i))]) (fun i => i ≤ l.length ∧ ∀ j, j < i → (l.getD j default).size ≤ 3000) (fun i => l.length - i) 0 ?_ ⟨by omega, fun j hj => by omega⟩ (by kernel_rfl) (fun _ => rfl) ?_
  · simp only [go_sem, txsN_zero]
    try trivial
  · rintro i ⟨hi, he⟩ hk
    simp only [go_sem]
    intro _
    first | refine branch_ndec (fun h6 => ?_) (fun h6 => ?_) | refine branch_dec (fun h6 => ?_) (fun h6 => ?_) | refine branch_nbool (fun h6 => ?_) (fun h6 => ?_) | refine branch_split (fun h6 => ?_) (fun h6 => ?_)
    rotate_left
    · have hie : i = l.length := by omega
      subst hie
      simp only [go_sem, txsOk_all hl he]
      try trivial
    have hlt : i < l.length := by omega
    have h0 : (0 : Int) ≤ (i : Int) := by omega
    have hw3 : IntKind.i64.wrap ((i : Int) + 1) = ((i + 1 : Nat) : Int) := by rw [wrap64 (by omega) (by omega)]; omega
    have hlen := txsN_len hl hi he
    simp only [go_sem, h0, hlt, h6]
    intro _
    first | refine branch_ndec (fun h7 => ?_) (fun h7 => ?_) | refine branch_dec (fun h7 => ?_) (fun h7 => ?_) | refine branch_nbool (fun h7 => ?_) (fun h7 => ?_) | refine branch_split (fun h7 => ?_) (fun h7 => ?_)
    · simp only [go_sem, txsOk_bad hlt h7]
      try trivial
    · have hsz : (l.getD i default).size ≤ 3000 := by omega
      have hlen2 := txtB_len hsz
      simp only [go_sem, h0, hlt, h6]
      refine call_lend ?_
      simp only [go_sem]
      refine callN.eq (ok184 (l.getD i default) hsz) (by simp only [go_sem]) ?_
      simp only [go_sem]
      refine ⟨by omega, ?_⟩
      rw [hw3]
      refine again_intro (i + 1) ⟨by omega, fun j hj => ?_⟩ (by omega) ?_
      · by_cases hji : j < i
        · exact he j hji
        · have : j = i := by omega
          subst this
          exact hsz
      · simp only [go_sem]
        rw [txsN_succ hlt, List.map_append]
        try trivial
theorem ok171 (l : List ByteArray) : VCalls gz 171 [.lst false 1 (l.map strA)] none (fun y _ => y = .lst true 1 ((txs l).map byteA)) := by
  refine VCalls.go (nt := 27) (keep := [0, 2, 3, 5, 8, 12, 13, 14, 15, 20]) (muts := []) (mvs := []) [] f171_at rfl (by kernel_rfl) rfl (by kernel_rfl) rfl (fun i h => by cases h) rfl ?_
  intro hok
  simp only [go_sem] at hok
  simp only [Tryz.f171, Func.code, Option.getD_some]
  simp only [go_sem]
  intro hm
  first | refine branch_ndec (fun h1 => ?_) (fun h1 => ?_) | refine branch_dec (fun h1 => ?_) (fun h1 => ?_) | refine branch_nbool (fun h1 => ?_) (fun h1 => ?_) | refine branch_split (fun h1 => ?_) (fun h1 => ?_)
  · simp only [go_sem, txs_long h1]
    try trivial
  simp only [go_sem]
  intro hm2
  refine call_lend ?_
  simp only [go_sem]
  refine callN.eq (ok172 l.length (by omega)) (by simp only [go_sem]) ?_
  simp only [go_sem]
  have hl : l.length ≤ 200 := by omega
  intro hm3
  refine vm_loopK (α := Nat) (fun i => [(12, .lst false 1 (l.map strA)), (13, .lit (.int .i64 l.length)), (3, .lst true 1 ((txsN l i).map byteA)), (14, .lit (.int .i64 i))]) (fun i => i ≤ l.length ∧ ∀ j, j < i → (l.getD j default).size ≤ 3000) (fun i => l.length - i) 0 ?_ ⟨by omega, fun j hj => by omega⟩ (by kernel_rfl) (fun _ => rfl) ?_
  · simp only [go_sem, txsN_zero]
    try trivial
  · rintro i ⟨hi, he⟩ hk
    simp only [go_sem]
    first | refine branch_ndec (fun h6 => ?_) (fun h6 => ?_) | refine branch_dec (fun h6 => ?_) (fun h6 => ?_) | refine branch_nbool (fun h6 => ?_) (fun h6 => ?_) | refine branch_split (fun h6 => ?_) (fun h6 => ?_)
    rotate_left
    · have hie : i = l.length := by omega
      subst hie
      simp only [go_sem, txsOk_all hl he]
      try trivial
    have hlt : i < l.length := by omega
    have h0 : (0 : Int) ≤ (i : Int) := by omega
    have hw3 : IntKind.i64.wrap ((i : Int) + 1) = ((i + 1 : Nat) : Int) := by rw [wrap64 (by omega) (by omega)]; omega
    have hlen := txsN_len hl hi he
    simp only [go_sem, h0, hlt, h6]
    intro _
    first | refine branch_ndec (fun h7 => ?_) (fun h7 => ?_) | refine branch_dec (fun h7 => ?_) (fun h7 => ?_) | refine branch_nbool (fun h7 => ?_) (fun h7 => ?_) | refine branch_split (fun h7 => ?_) (fun h7 => ?_)
    · simp only [go_sem, txsOk_bad hlt h7]
      try trivial
    · have hsz : (l.getD i default).size ≤ 3000 := by omega
      have hlen2 := txtB_len hsz
      simp only [go_sem, h0, hlt, h6]
      refine call_lend ?_
      simp only [go_sem]
      refine callN.eq (ok187 (l.getD i default) hsz) (by simp only [go_sem]) ?_
      simp only [go_sem]
      refine ⟨by omega, ?_⟩
      rw [hw3]
      refine again_intro (i + 1) ⟨by omega, fun j hj => ?_⟩ (by omega) ?_
      · by_cases hji : j < i
        · exact he j hji
        · have : j = i := by omega
          subst this
          exact hsz
      · simp only [go_sem]
        rw [txsN_succ hlt, List.map_append]
        try trivial
end Go.VS
set_option linter.unusedSimpArgs false
set_option linter.unusedVariables false
open Go.Proofs
set_option maxRecDepth 20000
namespace Go.VS
theorem f134_at : gz.P.funcs[134]? = some Tryz.f134 := by
  have h : Tryz.prog.funcs[134]? = some Tryz.f134 := by kernel_rfl
  exact h
def shL (b : Blk) (i : Nat) : List Int := [b.view, b.parent, b.proof.view, b.proof.name, (b.proof.bys.length : Int)] ++ ((List.range i).map fun j => [b.proof.bys.getD j default, b.proof.tags.getD j default]).flatten
theorem shL_zero {b : Blk} : shL b 0 = [b.view, b.parent, b.proof.view, b.proof.name, (b.proof.bys.length : Int)] := rfl
theorem shL_succ {b : Blk} {i : Nat} : shL b (i + 1) = shL b i ++ [b.proof.bys.getD i default, b.proof.tags.getD i default] := by
  simp only [shL, List.range_succ, List.map_append, List.flatten_append, List.append_assoc, List.map_cons, List.map_nil, List.flatten_cons, List.flatten_nil, List.append_nil]
theorem shL_len {b : Blk} : ∀ {i : Nat}, (shL b i).length = 5 + 2 * i
  | 0 => rfl
  | i + 1 => by rw [shL_succ, List.length_append, shL_len]; simp; omega
def inR (x : Int) : Prop := 0 ≤ x ∧ x ≤ 1099511627776
instance (x : Int) : Decidable (inR x) := inferInstanceAs (Decidable (_ ∧ _))
def nums (xs : List Int) : List UInt8 := (xs.map fun x => numB x.toNat).flatten
theorem nums_app {xs ys : List Int} : nums (xs ++ ys) = nums xs ++ nums ys := by simp [nums]
theorem nums_len : ∀ {xs : List Int}, (∀ x ∈ xs, inR x) → (nums xs).length ≤ 9 * xs.length
  | [], _ => by simp [nums]
  | x :: xs, h => by
    have h1 := nums_len (xs := xs) fun y hy => h y (by simp [hy])
    have h2 := h x (by simp)
    unfold inR at h2
    have h3 := numB_len9 (n := x.toNat) (by omega)
    have e : nums (x :: xs) = numB x.toNat ++ nums xs := rfl
    rw [e, List.length_append, List.length_cons]
    omega
def Blk.shOk (b : Blk) : Prop := (b.proof.bys.length ≤ 7 ∧ b.proof.bys.length = b.proof.tags.length) ∧ (∀ x ∈ shL b b.proof.bys.length, inR x) ∧ txs b.moves ≠ [] ∧ inR b.bY
instance (b : Blk) : Decidable b.shOk := inferInstanceAs (Decidable (_ ∧ _))
def Blk.shB (b : Blk) : List UInt8 := nums (shL b b.proof.bys.length) ++ txs b.moves ++ numB b.bY.toNat
def Blk.sh (b : Blk) : ByteArray := if b.shOk then ⟨b.shB.toArray⟩ else ⟨#[]⟩
theorem Blk.sh_no {b : Blk} (h : ¬ b.shOk) : b.sh = ⟨#[]⟩ := if_neg h
theorem Blk.sh_yes {b : Blk} (h : b.shOk) : b.sh = ⟨b.shB.toArray⟩ := if_pos h
theorem strOfA_3 {A B C : List UInt8} : strOfA (List.take (A.length + B.length + C.length) (A.map byteA ++ B.map byteA ++ C.map byteA)) = some (A ++ B ++ C) := by
  rw [← List.map_append, ← List.map_append, List.take_of_length_le (by simp only [List.length_map, List.length_append]; omega)]
  exact strOfA_map
set_option maxHeartbeats 2000000 in
theorem ok134 (b : Blk) : VCalls gz 134 [b.enc false] none (fun y _ => y = .lit (.string b.sh)) := by
  refine VCalls.go (nt := 102) (keep := [0, 1, 2, 3, 4, 5, 6, 7, 38, 44, 66, 74, 93]) (muts := []) (mvs := []) [(7, .tree false (.take 0 (.take 1 (.take 2 (.take 4 (.take 7 (.take 8 (.take 10 (.all (.cons 3 (.take 5 (.all (.cons 6 (.all (.cons 9 (.take 11 (.all (.cons 12 (.all (.cons 13 (.all (.cons 14 (.all (.cons 15 .done .nil)) .nil)) .nil)) .nil))) .nil)) (.cons 9 (.take 11 (.all (.cons 6 (.all (.cons 12 (.all (.cons 13 (.all (.cons 14 (.all (.cons 15 .done .nil)) .nil)) .nil)) .nil)) (.cons 12 (.all (.cons 6 (.all (.cons 13 (.all (.cons 14 (.all (.cons 15 .done .nil)) .nil)) .nil)) .nil)) .nil)))) .nil)))) (.cons 9 (.take 11 (.all (.cons 3 (.take 5 (.all (.cons 6 (.all (.cons 12 (.all (.cons 13 (.all (.cons 14 (.all (.cons 15 .done .nil)) .nil)) .nil)) .nil)) (.cons 12 (.all (.cons 6 (.all (.cons 13 (.all (.cons 14 (.all (.cons 15 .done .nil)) .nil)) .nil)) .nil)) .nil)))) (.cons 12 (.all (.cons 3 (.take 5 (.all (.cons 6 (.all (.cons 13 (.all (.cons 14 (.all (.cons 15 .done .nil)) .nil)) .nil)) .nil))) .nil)) .nil)))) .nil))))))))))), (18, .tree false (.take 0 (.take 1 (.take 3 (.all (.cons 2 (.all (.cons 4 (.all (.cons 5 (.all (.cons 6 (.all (.cons 7 (.all (.cons 8 .done .nil)) .nil)) .nil)) .nil)) .nil)) (.cons 4 (.all (.cons 2 (.all (.cons 5 (.all (.cons 6 (.all (.cons 7 (.all (.cons 8 .done .nil)) .nil)) .nil)) .nil)) .nil)) .nil)))))))] f134_at rfl (by kernel_rfl) rfl (by kernel_rfl) rfl (fun i h => by cases h) rfl ?_
  intro hok
  simp only [go_sem] at hok
  simp only [Tryz.f134, Func.code, Option.getD_some]
  simp only [go_sem]
  intro hm
  by_cases h1 : 7 < (b.proof.bys.length : Int)
  · have : b.sh = ⟨#[]⟩ := Blk.sh_no fun h => by have := h.1.1; omega
    simp only [go_sem, h1, this]
  simp only [go_sem, h1]
  intro hm2 hm3
  by_cases h2 : (b.proof.bys.length : Int) = (b.proof.tags.length : Int)
  rotate_left
  · have : b.sh = ⟨#[]⟩ := Blk.sh_no fun h => by have := h.1.2; omega
    simp only [go_sem, h2, this]
  simp only [go_sem, eq_true h2]
  intro hm4
  have hl7 : b.proof.bys.length ≤ 7 := by omega
  have hl2 : b.proof.bys.length = b.proof.tags.length := by omega
  refine vm_loopK (α := Nat) (fun i => [(1, .ptr true (b.enc false)), (2, .lit (.string ⟨#[]⟩)), (3, .lst true 1 ((shL b i).map intA)), (4, .lit (.int .i64 i))]) (fun i => i ≤ b.proof.bys.length) (fun i => b.proof.bys.length - i) 0 ?_ (by omega) (by kernel_rfl) (fun _ => rfl) ?_
  · simp only [go_sem, shL_zero]
    try rfl
  · intro i hi hk
    simp only [go_sem]
    intro _
    first | refine branch_ndec (fun h6 => ?_) (fun h6 => ?_) | refine branch_dec (fun h6 => ?_) (fun h6 => ?_) | refine branch_nbool (fun h6 => ?_) (fun h6 => ?_) | refine branch_split (fun h6 => ?_) (fun h6 => ?_)
    · have hlt : i < b.proof.bys.length := by omega
      have hlt2 : i < b.proof.tags.length := by omega
      have h0 : (0 : Int) ≤ (i : Int) := by omega
      have h6b : (i : Int) < (b.proof.tags.length : Int) := by omega
      have hw3 : IntKind.i64.wrap ((i : Int) + 1) = ((i + 1 : Nat) : Int) := by rw [wrap64 (by omega) (by omega)]; omega
      have hsl := shL_len (b := b) (i := i)
      simp only [go_sem, h0, hlt, h6, hlt2, h6b, hw3]
      refine ⟨by omega, ?_⟩
      refine again_intro (i + 1) (by omega) (by omega) ?_
      simp only [go_sem]
      rw [shL_succ, List.map_append]
      try rfl
    · have hie : i = b.proof.bys.length := by omega
      subst hie
      simp only [go_sem]
      have hsl := shL_len (b := b) (i := b.proof.bys.length)
      obtain ⟨L, hL⟩ : ∃ L, L = shL b b.proof.bys.length := ⟨_, rfl⟩
      rw [← hL] at hsl ⊢
      refine vm_loopK (α := Nat) (fun k => [(1, .ptr true (b.enc false)), (2, .lit (.string ⟨#[]⟩)), (3, .lst true 1 (L.map intA)), (5, .lst true 1 ((nums (L.take k)).map byteA)), (6, .lit (.int .i64 k))]) (fun k => k ≤ L.length ∧ ∀ j, j < k → inR (L.getD j default)) (fun k => L.length - k) 0 ?_ ⟨by omega, fun j hj => by omega⟩ (by kernel_rfl) (fun _ => rfl) ?_
      · simp only [go_sem]
        exact ⟨rfl, rfl⟩
      · rintro k ⟨hk2, hin⟩ hkk
        simp only [go_sem]
        intro _
        first | refine branch_ndec (fun h8 => ?_) (fun h8 => ?_) | refine branch_dec (fun h8 => ?_) (fun h8 => ?_) | refine branch_nbool (fun h8 => ?_) (fun h8 => ?_) | refine branch_split (fun h8 => ?_) (fun h8 => ?_)
        · have hlt : k < L.length := by omega
          have h0 : (0 : Int) ≤ (k : Int) := by omega
          have hw3 : IntKind.i64.wrap ((k : Int) + 1) = ((k + 1 : Nat) : Int) := by rw [wrap64 (by omega) (by omega)]; omega
          simp only [go_sem, h0, hlt, h8]
          refine call_lend ?_
          simp only [go_sem]
          refine callN.eq (ok37 (L.getD k default) 0 1099511627776) (by simp only [go_sem]) ?_
          simp only [go_sem]
          by_cases h9 : 0 ≤ L.getD k default ∧ L.getD k default ≤ 1099511627776
          rotate_left
          · have : b.sh = ⟨#[]⟩ := Blk.sh_no fun h => h9 (h.2.1 _ (by rw [← hL]; exact getD_mem hlt))
            simp only [go_sem, eq_false h9, this]
          simp only [go_sem, eq_true h9, h0, hlt, h8]
          obtain ⟨m, hmm⟩ := Int.eq_ofNat_of_zero_le h9.1
          simp only [go_sem, hmm]
          refine call_lend ?_
          simp only [go_sem]
          refine callN.eq (ok162 m (by omega)) (by simp only [go_sem]) ?_
          simp only [go_sem]
          have hl9 := numB_len9 (n := m) (by omega)
          have hnl := nums_len (xs := L.take k) (fun x hx => by
            obtain ⟨j, hj, rfl⟩ := List.mem_iff_getElem.1 hx
            rw [List.length_take] at hj
            have := hin j (by omega)
            rw [List.getElem_take]
            simpa [List.getD, show j < L.length by omega] using this)
          rw [List.length_take] at hnl
          refine ⟨by omega, ?_⟩
          rw [hw3]
          refine again_intro (k + 1) ⟨by omega, fun j hj => ?_⟩ (by omega) ?_
          · by_cases hji : j < k
            · exact hin j hji
            · have : j = k := by omega
              subst this
              exact h9
          · simp only [go_sem]
            rw [take_succ_getD hlt, nums_app, List.map_append, hmm]
            have e : nums [(m : Int)] = numB m := by simp [nums]
            rw [e]
            try trivial
        · have hke : k = L.length := by omega
          subst hke
          simp only [go_sem]
          refine call_lend ?_
          simp only [go_sem]
          refine callN.eq (ok163 b.moves) (by simp only [go_sem]) ?_
          simp only [go_sem]
          intro hm5
          have htl := txs_len (l := b.moves)
          by_cases ht : ((txs b.moves).length : Int) = 0
          · have : b.sh = ⟨#[]⟩ := Blk.sh_no fun h => h.2.2.1 (List.eq_nil_of_length_eq_zero (by omega))
            simp only [go_sem, eq_true ht, this]
          simp only [go_sem, ht]
          refine call_lend ?_
          simp only [go_sem]
          refine callN.eq (ok37 b.bY 0 1099511627776) (by simp only [go_sem]) ?_
          simp only [go_sem]
          by_cases hb : 0 ≤ b.bY ∧ b.bY ≤ 1099511627776
          rotate_left
          · have : b.sh = ⟨#[]⟩ := Blk.sh_no fun h => hb h.2.2.2
            simp only [go_sem, eq_false hb, this]
          simp only [go_sem, eq_true hb]
          have hall : ∀ x ∈ L, inR x := fun x hx => by
            obtain ⟨j, hj, rfl⟩ := List.mem_iff_getElem.1 hx
            have := hin j hj
            simpa [List.getD, hj] using this
          have hsh : b.shOk := ⟨⟨hl7, hl2⟩, by rw [← hL]; exact hall, fun h => ht (by rw [h]; rfl), hb⟩
          have hnl := nums_len hall
          obtain ⟨m, hmm⟩ := Int.eq_ofNat_of_zero_le hb.1
          have hl9 := numB_len9 (n := m) (by omega)
          simp only [go_sem, hmm]
          repeat' refine And.intro ?_ ?_
          all_goals try omega
          all_goals
            refine call_lend ?_
            simp only [go_sem]
            refine callN.eq (ok162 m (by omega)) (by simp only [go_sem]) ?_
            simp only [go_sem]
            refine ⟨by omega, ?_⟩
            simp only [go_sem, strOfA_3]
            rw [Blk.sh_yes hsh, Blk.shB, ← hL, hmm]
            rfl
end Go.VS
set_option linter.unusedSimpArgs false
set_option linter.unusedVariables false
open Go.Proofs
set_option maxRecDepth 20000
namespace Go.VS
theorem f153_at : gz.P.funcs[153]? = some Tryz.f153 := by
  have h : Tryz.prog.funcs[153]? = some Tryz.f153 := by kernel_rfl
  exact h
theorem f27_at : gz.P.funcs[27]? = some Tryz.f27 := by
  have h : Tryz.prog.funcs[27]? = some Tryz.f27 := by kernel_rfl
  exact h
theorem f116_at : gz.P.funcs[116]? = some Tryz.f116 := by
  have h : Tryz.prog.funcs[116]? = some Tryz.f116 := by kernel_rfl
  exact h
theorem f70_at : gz.P.funcs[70]? = some Tryz.f70 := by
  have h : Tryz.prog.funcs[70]? = some Tryz.f70 := by kernel_rfl
  exact h
theorem f117_at : gz.P.funcs[117]? = some Tryz.f117 := by
  have h : Tryz.prog.funcs[117]? = some Tryz.f117 := by kernel_rfl
  exact h
theorem f71_at : gz.P.funcs[71]? = some Tryz.f71 := by
  have h : Tryz.prog.funcs[71]? = some Tryz.f71 := by kernel_rfl
  exact h
theorem f68_at : gz.P.funcs[68]? = some Tryz.f68 := by
  have h : Tryz.prog.funcs[68]? = some Tryz.f68 := by kernel_rfl
  exact h
theorem f115_at : gz.P.funcs[115]? = some Tryz.f115 := by
  have h : Tryz.prog.funcs[115]? = some Tryz.f115 := by kernel_rfl
  exact h
theorem f69_at : gz.P.funcs[69]? = some Tryz.f69 := by
  have h : Tryz.prog.funcs[69]? = some Tryz.f69 := by kernel_rfl
  exact h
theorem f28_at : gz.P.funcs[28]? = some Tryz.f28 := by
  have h : Tryz.prog.funcs[28]? = some Tryz.f28 := by kernel_rfl
  exact h
theorem ok153 (xs ys : List ByteArray) : VCalls gz 153 [.lst false 1 (xs.map strA), .lst false 1 (ys.map strA)] none (fun y _ => y = .lit (.bool (decide (xs = ys)))) := by
  refine VCalls.go (nt := 26) (keep := [0, 1, 4, 5, 10, 14, 25]) (muts := []) (mvs := []) [(6, .chain true [0, 1, 2, 3, 4, 5, 6, 7, 8])] f153_at rfl (by kernel_rfl) rfl (by kernel_rfl) rfl (fun i h => by cases h) rfl ?_
  intro hok
  simp only [go_sem] at hok
  simp only [Tryz.f153, Func.code, Option.getD_some]
  simp only [go_sem]
  intro hm hm2
  first | refine branch_ndec (fun h => ?_) (fun h => ?_) | refine branch_dec (fun h => ?_) (fun h => ?_) | refine branch_nbool (fun h => ?_) (fun h => ?_) | refine branch_split (fun h => ?_) (fun h => ?_)
  rotate_left
  · simp only [go_sem]
    have : ¬ xs = ys := fun e => h (by rw [e])
    simp only [this, decide_false]
  · have hll : xs.length = ys.length := by omega
    simp only [go_sem]
    refine vm_loopK (α := Nat) (fun i => [(0, .lst false 1 (xs.map strA)), (1, .lst false 1 (ys.map strA)), (4, .lit (.bool false)), (5, .lit (.int .i64 i))]) (fun i => i ≤ xs.length ∧ ∀ j, j < i → xs.getD j default = ys.getD j default) (fun i => xs.length - i) 0 ?_ ⟨by omega, fun j hj => by omega⟩ (by kernel_rfl) (fun _ => rfl) ?_
    · simp only [go_sem]
      try trivial
    · rintro i ⟨hi, he⟩ hk
      simp only [go_sem]
      intro _
      first | refine branch_ndec (fun h2 => ?_) (fun h2 => ?_) | refine branch_dec (fun h2 => ?_) (fun h2 => ?_) | refine branch_nbool (fun h2 => ?_) (fun h2 => ?_) | refine branch_split (fun h2 => ?_) (fun h2 => ?_)
      · have hlt : i < xs.length := by omega
        have hlt2 : i < ys.length := by omega
        have h0 : (0 : Int) ≤ (i : Int) := by omega
        have h3 : (i : Int) < (ys.length : Int) := by omega
        have hw3 : IntKind.i64.wrap ((i : Int) + 1) = ((i + 1 : Nat) : Int) := by rw [wrap64 (by omega) (by omega)]; omega
        simp only [go_sem, h0, hlt, h2, hlt2, h3]
        first | refine branch_ndec (fun h4 => ?_) (fun h4 => ?_) | refine branch_dec (fun h4 => ?_) (fun h4 => ?_) | refine branch_nbool (fun h4 => ?_) (fun h4 => ?_) | refine branch_split (fun h4 => ?_) (fun h4 => ?_)
        rotate_left
        · simp only [go_sem]
          have : ¬ xs = ys := fun e => h4 (by rw [e])
          simp only [this, decide_false]
        · simp only [go_sem, hw3]
          refine again_intro (i + 1) ⟨by omega, fun j hj => ?_⟩ (by omega) ?_
          · by_cases hji : j < i
            · exact he j hji
            · have : j = i := by omega
              subst this
              exact h4
          · simp only [go_sem]
            try trivial
      · simp only [go_sem]
        have : i = xs.length := by omega
        subst this
        have : xs = ys := ext_getD hll he
        simp only [this, decide_true]
theorem ok27 (xs ys : List Int) : VCalls gz 27 [.lst false 1 (xs.map intA), .lst false 1 (ys.map intA)] none (fun y _ => y = .lit (.bool (decide (xs = ys)))) := by
  refine VCalls.go (nt := 26) (keep := [0, 1, 4, 5, 10, 14, 25]) (muts := []) (mvs := []) [(6, .chain true [0, 1, 2, 3, 4, 5, 6, 7, 8])] f27_at rfl (by kernel_rfl) rfl (by kernel_rfl) rfl (fun i h => by cases h) rfl ?_
  intro hok
  simp only [go_sem] at hok
  simp only [Tryz.f27, Func.code, Option.getD_some]
  simp only [go_sem]
  intro hm hm2
  first | refine branch_ndec (fun h => ?_) (fun h => ?_) | refine branch_dec (fun h => ?_) (fun h => ?_) | refine branch_nbool (fun h => ?_) (fun h => ?_) | refine branch_split (fun h => ?_) (fun h => ?_)
  rotate_left
  · simp only [go_sem]
    have : ¬ xs = ys := fun e => h (by rw [e])
    simp only [this, decide_false]
  · have hll : xs.length = ys.length := by omega
    simp only [go_sem]
    refine vm_loopK (α := Nat) (fun i => [(0, .lst false 1 (xs.map intA)), (1, .lst false 1 (ys.map intA)), (4, .lit (.bool false)), (5, .lit (.int .i64 i))]) (fun i => i ≤ xs.length ∧ ∀ j, j < i → xs.getD j default = ys.getD j default) (fun i => xs.length - i) 0 ?_ ⟨by omega, fun j hj => by omega⟩ (by kernel_rfl) (fun _ => rfl) ?_
    · simp only [go_sem]
      try trivial
    · rintro i ⟨hi, he⟩ hk
      simp only [go_sem]
      intro _
      first | refine branch_ndec (fun h2 => ?_) (fun h2 => ?_) | refine branch_dec (fun h2 => ?_) (fun h2 => ?_) | refine branch_nbool (fun h2 => ?_) (fun h2 => ?_) | refine branch_split (fun h2 => ?_) (fun h2 => ?_)
      · have hlt : i < xs.length := by omega
        have hlt2 : i < ys.length := by omega
        have h0 : (0 : Int) ≤ (i : Int) := by omega
        have h3 : (i : Int) < (ys.length : Int) := by omega
        have hw3 : IntKind.i64.wrap ((i : Int) + 1) = ((i + 1 : Nat) : Int) := by rw [wrap64 (by omega) (by omega)]; omega
        simp only [go_sem, h0, hlt, h2, hlt2, h3]
        first | refine branch_ndec (fun h4 => ?_) (fun h4 => ?_) | refine branch_dec (fun h4 => ?_) (fun h4 => ?_) | refine branch_nbool (fun h4 => ?_) (fun h4 => ?_) | refine branch_split (fun h4 => ?_) (fun h4 => ?_)
        rotate_left
        · simp only [go_sem]
          have : ¬ xs = ys := fun e => h4 (by rw [e])
          simp only [this, decide_false]
        · simp only [go_sem, hw3]
          refine again_intro (i + 1) ⟨by omega, fun j hj => ?_⟩ (by omega) ?_
          · by_cases hji : j < i
            · exact he j hji
            · have : j = i := by omega
              subst this
              exact h4
          · simp only [go_sem]
            try trivial
      · simp only [go_sem]
        have : i = xs.length := by omega
        subst this
        have : xs = ys := ext_getD hll he
        simp only [this, decide_true]
theorem ok116 (p q : Vot) : VCalls gz 116 [p.enc, q.enc] none (fun y _ => y = .lit (.bool (decide (p = q)))) := by
  refine VCalls.go (nt := 25) (keep := [0, 1, 2, 3, 4, 9, 14, 19, 24]) (muts := []) (mvs := []) [] f116_at rfl (by kernel_rfl) rfl (by kernel_rfl) rfl (fun i h => by cases h) rfl ?_
  intro hok
  simp only [go_sem] at hok
  simp only [Tryz.f116, Func.code, Option.getD_some]
  simp only [go_sem]
  first | refine branch_ndec (fun h1 => ?_) (fun h1 => ?_) | refine branch_dec (fun h1 => ?_) (fun h1 => ?_) | refine branch_nbool (fun h1 => ?_) (fun h1 => ?_) | refine branch_split (fun h1 => ?_) (fun h1 => ?_)
  rotate_left
  · have : ¬ p = q := fun e => h1 (by rw [e])
    simp only [go_sem, this]
  simp only [go_sem]
  first | refine branch_ndec (fun h2 => ?_) (fun h2 => ?_) | refine branch_dec (fun h2 => ?_) (fun h2 => ?_) | refine branch_nbool (fun h2 => ?_) (fun h2 => ?_) | refine branch_split (fun h2 => ?_) (fun h2 => ?_)
  rotate_left
  · have : ¬ p = q := fun e => h2 (by rw [e])
    simp only [go_sem, this]
  simp only [go_sem]
  first | refine branch_ndec (fun h3 => ?_) (fun h3 => ?_) | refine branch_dec (fun h3 => ?_) (fun h3 => ?_) | refine branch_nbool (fun h3 => ?_) (fun h3 => ?_) | refine branch_split (fun h3 => ?_) (fun h3 => ?_)
  rotate_left
  · have : ¬ p = q := fun e => h3 (by rw [e])
    simp only [go_sem, this]
  simp only [go_sem]
  first | refine branch_ndec (fun h4 => ?_) (fun h4 => ?_) | refine branch_dec (fun h4 => ?_) (fun h4 => ?_) | refine branch_nbool (fun h4 => ?_) (fun h4 => ?_) | refine branch_split (fun h4 => ?_) (fun h4 => ?_)
  rotate_left
  · have : ¬ p = q := fun e => h4 (by rw [e])
    simp only [go_sem, this]
  simp only [go_sem]
  have : p = q := by cases p; cases q; simp_all
  simp only [go_sem, eq_true this]
theorem ok70 (xs ys : List Vot) : VCalls gz 70 [.lst false 4 (xs.map Vot.enc), .lst false 4 (ys.map Vot.enc)] none (fun y _ => y = .lit (.bool (decide (xs = ys)))) := by
  refine VCalls.go (nt := 27) (keep := [0, 1, 4, 5, 10, 14, 26]) (muts := []) (mvs := []) [(6, .tree true (.take 0 (.take 1 (.take 2 (.take 3 (.take 4 (.take 5 (.take 6 (.take 7 (.all (.cons 8 (.take 9 .done) .nil)))))))))))] f70_at rfl (by kernel_rfl) rfl (by kernel_rfl) rfl (fun i h => by cases h) rfl ?_
  intro hok
  simp only [go_sem] at hok
  simp only [Tryz.f70, Func.code, Option.getD_some]
  simp only [go_sem]
  intro hm hm2
  first | refine branch_ndec (fun h => ?_) (fun h => ?_) | refine branch_dec (fun h => ?_) (fun h => ?_) | refine branch_nbool (fun h => ?_) (fun h => ?_) | refine branch_split (fun h => ?_) (fun h => ?_)
  rotate_left
  · simp only [go_sem]
    have : ¬ xs = ys := fun e => h (by rw [e])
    simp only [this, decide_false]
  · have hll : xs.length = ys.length := by omega
    simp only [go_sem]
    refine vm_loopK (α := Nat) (fun i => [(0, .lst false 4 (xs.map Vot.enc)), (1, .lst false 4 (ys.map Vot.enc)), (4, .lit (.bool false)), (5, .lit (.int .i64 i))]) (fun i => i ≤ xs.length ∧ ∀ j, j < i → xs.getD j default = ys.getD j default) (fun i => xs.length - i) 0 ?_ ⟨by omega, fun j hj => by omega⟩ (by kernel_rfl) (fun _ => rfl) ?_
    · simp only [go_sem]
      try trivial
    · rintro i ⟨hi, he⟩ hk
      simp only [go_sem]
      intro _
      first | refine branch_ndec (fun h2 => ?_) (fun h2 => ?_) | refine branch_dec (fun h2 => ?_) (fun h2 => ?_) | refine branch_nbool (fun h2 => ?_) (fun h2 => ?_) | refine branch_split (fun h2 => ?_) (fun h2 => ?_)
      · have hlt : i < xs.length := by omega
        have hlt2 : i < ys.length := by omega
        have h0 : (0 : Int) ≤ (i : Int) := by omega
        have h3 : (i : Int) < (ys.length : Int) := by omega
        have hw3 : IntKind.i64.wrap ((i : Int) + 1) = ((i + 1 : Nat) : Int) := by rw [wrap64 (by omega) (by omega)]; omega
        simp only [go_sem, h0, hlt, h2, hlt2, h3]
        repeat' refine And.intro ?_ ?_
        all_goals
          refine call_lend ?_
          simp only [go_sem]
          refine callN.eq (ok116 (xs.getD i default) (ys.getD i default)) (by simp only [go_sem]) ?_
          simp only [go_sem]
          by_cases h4 : xs.getD i default = ys.getD i default
          · simp only [go_sem, hw3, h4]
            refine again_intro (i + 1) ⟨by omega, fun j hj => ?_⟩ (by omega) ?_
            · by_cases hji : j < i
              · exact he j hji
              · have : j = i := by omega
                subst this
                exact h4
            · simp only [go_sem]
              try trivial
          · simp only [go_sem, h4]
            have : ¬ xs = ys := fun e => h4 (by rw [e])
            simp only [this, decide_false]
      · simp only [go_sem]
        have : i = xs.length := by omega
        subst this
        have : xs = ys := ext_getD hll he
        simp only [this, decide_true]
theorem ok117 (p q : Nws) : VCalls gz 117 [p.enc, q.enc] none (fun y _ => y = .lit (.bool (decide (p = q)))) := by
  refine VCalls.go (nt := 15) (keep := [0, 1, 2, 3, 4, 9, 14]) (muts := []) (mvs := []) [] f117_at rfl (by kernel_rfl) rfl (by kernel_rfl) rfl (fun i h => by cases h) rfl ?_
  intro hok
  simp only [go_sem] at hok
  simp only [Tryz.f117, Func.code, Option.getD_some]
  simp only [go_sem]
  first | refine branch_ndec (fun h1 => ?_) (fun h1 => ?_) | refine branch_dec (fun h1 => ?_) (fun h1 => ?_) | refine branch_nbool (fun h1 => ?_) (fun h1 => ?_) | refine branch_split (fun h1 => ?_) (fun h1 => ?_)
  rotate_left
  · have : ¬ p = q := fun e => h1 (by rw [e])
    simp only [go_sem, this]
  simp only [go_sem]
  first | refine branch_ndec (fun h2 => ?_) (fun h2 => ?_) | refine branch_dec (fun h2 => ?_) (fun h2 => ?_) | refine branch_nbool (fun h2 => ?_) (fun h2 => ?_) | refine branch_split (fun h2 => ?_) (fun h2 => ?_)
  rotate_left
  · have : ¬ p = q := fun e => h2 (by rw [e])
    simp only [go_sem, this]
  simp only [go_sem]
  have : p = q := by cases p; cases q; simp_all
  simp only [go_sem, eq_true this]
theorem ok71 (xs ys : List Nws) : VCalls gz 71 [.lst false 2 (xs.map Nws.enc), .lst false 2 (ys.map Nws.enc)] none (fun y _ => y = .lit (.bool (decide (xs = ys)))) := by
  refine VCalls.go (nt := 27) (keep := [0, 1, 4, 5, 10, 14, 26]) (muts := []) (mvs := []) [(6, .tree true (.take 0 (.take 1 (.take 2 (.take 3 (.take 4 (.take 5 (.take 6 (.take 7 (.all (.cons 8 (.take 9 .done) .nil)))))))))))] f71_at rfl (by kernel_rfl) rfl (by kernel_rfl) rfl (fun i h => by cases h) rfl ?_
  intro hok
  simp only [go_sem] at hok
  simp only [Tryz.f71, Func.code, Option.getD_some]
  simp only [go_sem]
  intro hm hm2
  first | refine branch_ndec (fun h => ?_) (fun h => ?_) | refine branch_dec (fun h => ?_) (fun h => ?_) | refine branch_nbool (fun h => ?_) (fun h => ?_) | refine branch_split (fun h => ?_) (fun h => ?_)
  rotate_left
  · simp only [go_sem]
    have : ¬ xs = ys := fun e => h (by rw [e])
    simp only [this, decide_false]
  · have hll : xs.length = ys.length := by omega
    simp only [go_sem]
    refine vm_loopK (α := Nat) (fun i => [(0, .lst false 2 (xs.map Nws.enc)), (1, .lst false 2 (ys.map Nws.enc)), (4, .lit (.bool false)), (5, .lit (.int .i64 i))]) (fun i => i ≤ xs.length ∧ ∀ j, j < i → xs.getD j default = ys.getD j default) (fun i => xs.length - i) 0 ?_ ⟨by omega, fun j hj => by omega⟩ (by kernel_rfl) (fun _ => rfl) ?_
    · simp only [go_sem]
      try trivial
    · rintro i ⟨hi, he⟩ hk
      simp only [go_sem]
      intro _
      first | refine branch_ndec (fun h2 => ?_) (fun h2 => ?_) | refine branch_dec (fun h2 => ?_) (fun h2 => ?_) | refine branch_nbool (fun h2 => ?_) (fun h2 => ?_) | refine branch_split (fun h2 => ?_) (fun h2 => ?_)
      · have hlt : i < xs.length := by omega
        have hlt2 : i < ys.length := by omega
        have h0 : (0 : Int) ≤ (i : Int) := by omega
        have h3 : (i : Int) < (ys.length : Int) := by omega
        have hw3 : IntKind.i64.wrap ((i : Int) + 1) = ((i + 1 : Nat) : Int) := by rw [wrap64 (by omega) (by omega)]; omega
        simp only [go_sem, h0, hlt, h2, hlt2, h3]
        repeat' refine And.intro ?_ ?_
        all_goals
          refine call_lend ?_
          simp only [go_sem]
          refine callN.eq (ok117 (xs.getD i default) (ys.getD i default)) (by simp only [go_sem]) ?_
          simp only [go_sem]
          by_cases h4 : xs.getD i default = ys.getD i default
          · simp only [go_sem, hw3, h4]
            refine again_intro (i + 1) ⟨by omega, fun j hj => ?_⟩ (by omega) ?_
            · by_cases hji : j < i
              · exact he j hji
              · have : j = i := by omega
                subst this
                exact h4
            · simp only [go_sem]
              try trivial
          · simp only [go_sem, h4]
            have : ¬ xs = ys := fun e => h4 (by rw [e])
            simp only [this, decide_false]
      · simp only [go_sem]
        have : i = xs.length := by omega
        subst this
        have : xs = ys := ext_getD hll he
        simp only [this, decide_true]
theorem ok68 (p q : Prf) : VCalls gz 68 [p.enc false, q.enc false] none (fun y _ => y = .lit (.bool (decide (p = q)))) := by
  refine VCalls.go (nt := 27) (keep := [0, 1, 2, 3, 4, 9, 14, 20, 26]) (muts := []) (mvs := []) [] f68_at rfl (by kernel_rfl) rfl (by kernel_rfl) rfl (fun i h => by cases h) rfl ?_
  intro hok
  simp only [go_sem] at hok
  simp only [Tryz.f68, Func.code, Option.getD_some]
  simp only [go_sem]
  first | refine branch_ndec (fun h1 => ?_) (fun h1 => ?_) | refine branch_dec (fun h1 => ?_) (fun h1 => ?_) | refine branch_nbool (fun h1 => ?_) (fun h1 => ?_) | refine branch_split (fun h1 => ?_) (fun h1 => ?_)
  rotate_left
  · have : ¬ p = q := fun e => h1 (by rw [e])
    simp only [go_sem, this]
  simp only [go_sem]
  first | refine branch_ndec (fun h2 => ?_) (fun h2 => ?_) | refine branch_dec (fun h2 => ?_) (fun h2 => ?_) | refine branch_nbool (fun h2 => ?_) (fun h2 => ?_) | refine branch_split (fun h2 => ?_) (fun h2 => ?_)
  rotate_left
  · have : ¬ p = q := fun e => h2 (by rw [e])
    simp only [go_sem, this]
  simp only [go_sem]
  refine call_lend ?_
  simp only [go_sem]
  refine callN.eq (ok27 p.bys q.bys) (by simp only [go_sem]) ?_
  simp only [go_sem]
  by_cases h3 : p.bys = q.bys
  rotate_left
  · have : ¬ p = q := fun e => h3 (by rw [e])
    simp only [go_sem, h3, this]
  simp only [go_sem, eq_true h3]
  refine call_lend ?_
  simp only [go_sem]
  refine callN.eq (ok27 p.tags q.tags) (by simp only [go_sem]) ?_
  simp only [go_sem]
  by_cases h4 : p.tags = q.tags
  rotate_left
  · have : ¬ p = q := fun e => h4 (by rw [e])
    simp only [go_sem, h4, this]
  simp only [go_sem, eq_true h4]
  have : p = q := by cases p; cases q; simp_all
  simp only [go_sem, eq_true this]
theorem ok115 (p q : Blk) : VCalls gz 115 [p.enc false, q.enc false] none (fun y _ => y = .lit (.bool (decide (p = q)))) := by
  refine VCalls.go (nt := 32) (keep := [0, 1, 2, 3, 4, 9, 14, 20, 26, 31]) (muts := []) (mvs := []) [] f115_at rfl (by kernel_rfl) rfl (by kernel_rfl) rfl (fun i h => by cases h) rfl ?_
  intro hok
  simp only [go_sem] at hok
  simp only [Tryz.f115, Func.code, Option.getD_some]
  simp only [go_sem]
  first | refine branch_ndec (fun h1 => ?_) (fun h1 => ?_) | refine branch_dec (fun h1 => ?_) (fun h1 => ?_) | refine branch_nbool (fun h1 => ?_) (fun h1 => ?_) | refine branch_split (fun h1 => ?_) (fun h1 => ?_)
  rotate_left
  · have : ¬ p = q := fun e => h1 (by rw [e])
    simp only [go_sem, this]
  simp only [go_sem]
  first | refine branch_ndec (fun h2 => ?_) (fun h2 => ?_) | refine branch_dec (fun h2 => ?_) (fun h2 => ?_) | refine branch_nbool (fun h2 => ?_) (fun h2 => ?_) | refine branch_split (fun h2 => ?_) (fun h2 => ?_)
  rotate_left
  · have : ¬ p = q := fun e => h2 (by rw [e])
    simp only [go_sem, this]
  simp only [go_sem]
  refine call_lend ?_
  simp only [go_sem]
  refine callN.eq (ok68 p.proof q.proof) (by simp only [go_sem]) ?_
  simp only [go_sem]
  by_cases h3 : p.proof = q.proof
  rotate_left
  · have : ¬ p = q := fun e => h3 (by rw [e])
    simp only [go_sem, h3, this]
  simp only [go_sem, eq_true h3]
  refine call_lend ?_
  simp only [go_sem]
  refine callN.eq (ok153 p.moves q.moves) (by simp only [go_sem]) ?_
  simp only [go_sem]
  by_cases h4 : p.moves = q.moves
  rotate_left
  · have : ¬ p = q := fun e => h4 (by rw [e])
    simp only [go_sem, h4, this]
  simp only [go_sem, eq_true h4]
  first | refine branch_ndec (fun h5 => ?_) (fun h5 => ?_) | refine branch_dec (fun h5 => ?_) (fun h5 => ?_) | refine branch_nbool (fun h5 => ?_) (fun h5 => ?_) | refine branch_split (fun h5 => ?_) (fun h5 => ?_)
  rotate_left
  · have : ¬ p = q := fun e => h5 (by rw [e])
    simp only [go_sem, this]
  simp only [go_sem]
  have : p = q := by cases p; cases q; simp_all
  simp only [go_sem, eq_true this]
theorem ok69 (xs ys : List Blk) : VCalls gz 69 [.lst false 8 (xs.map (Blk.enc false)), .lst false 8 (ys.map (Blk.enc false))] none (fun y _ => y = .lit (.bool (decide (xs = ys)))) := by
  refine VCalls.go (nt := 27) (keep := [0, 1, 4, 5, 10, 14, 26]) (muts := []) (mvs := []) [(6, .tree true (.take 0 (.take 1 (.take 2 (.take 3 (.take 4 (.take 5 (.take 6 (.take 7 (.all (.cons 8 (.take 9 .done) .nil)))))))))))] f69_at rfl (by kernel_rfl) rfl (by kernel_rfl) rfl (fun i h => by cases h) rfl ?_
  intro hok
  simp only [go_sem] at hok
  simp only [Tryz.f69, Func.code, Option.getD_some]
  simp only [go_sem]
  intro hm hm2
  first | refine branch_ndec (fun h => ?_) (fun h => ?_) | refine branch_dec (fun h => ?_) (fun h => ?_) | refine branch_nbool (fun h => ?_) (fun h => ?_) | refine branch_split (fun h => ?_) (fun h => ?_)
  rotate_left
  · simp only [go_sem]
    have : ¬ xs = ys := fun e => h (by rw [e])
    simp only [this, decide_false]
  · have hll : xs.length = ys.length := by omega
    simp only [go_sem]
    refine vm_loopK (α := Nat) (fun i => [(0, .lst false 8 (xs.map (Blk.enc false))), (1, .lst false 8 (ys.map (Blk.enc false))), (4, .lit (.bool false)), (5, .lit (.int .i64 i))]) (fun i => i ≤ xs.length ∧ ∀ j, j < i → xs.getD j default = ys.getD j default) (fun i => xs.length - i) 0 ?_ ⟨by omega, fun j hj => by omega⟩ (by kernel_rfl) (fun _ => rfl) ?_
    · simp only [go_sem]
      try trivial
    · rintro i ⟨hi, he⟩ hk
      simp only [go_sem]
      intro _
      first | refine branch_ndec (fun h2 => ?_) (fun h2 => ?_) | refine branch_dec (fun h2 => ?_) (fun h2 => ?_) | refine branch_nbool (fun h2 => ?_) (fun h2 => ?_) | refine branch_split (fun h2 => ?_) (fun h2 => ?_)
      · have hlt : i < xs.length := by omega
        have hlt2 : i < ys.length := by omega
        have h0 : (0 : Int) ≤ (i : Int) := by omega
        have h3 : (i : Int) < (ys.length : Int) := by omega
        have hw3 : IntKind.i64.wrap ((i : Int) + 1) = ((i + 1 : Nat) : Int) := by rw [wrap64 (by omega) (by omega)]; omega
        simp only [go_sem, h0, hlt, h2, hlt2, h3]
        repeat' refine And.intro ?_ ?_
        all_goals
          refine call_lend ?_
          simp only [go_sem]
          refine callN.eq (ok115 (xs.getD i default) (ys.getD i default)) (by simp only [go_sem]) ?_
          simp only [go_sem]
          by_cases h4 : xs.getD i default = ys.getD i default
          · simp only [go_sem, hw3, h4]
            refine again_intro (i + 1) ⟨by omega, fun j hj => ?_⟩ (by omega) ?_
            · by_cases hji : j < i
              · exact he j hji
              · have : j = i := by omega
                subst this
                exact h4
            · simp only [go_sem]
              try trivial
          · simp only [go_sem, h4]
            have : ¬ xs = ys := fun e => h4 (by rw [e])
            simp only [this, decide_false]
      · simp only [go_sem]
        have : i = xs.length := by omega
        subst this
        have : xs = ys := ext_getD hll he
        simp only [this, decide_true]
theorem ok28 (p q : Rpl) : VCalls gz 28 [p.enc false, q.enc false] none (fun y _ => y = .lit (.bool (decide (p = q)))) := by
  refine VCalls.go (nt := 65) (keep := [0, 1, 2, 3, 4, 9, 14, 19, 24, 29, 34, 40, 46, 52, 58, 64]) (muts := []) (mvs := []) [] f28_at rfl (by kernel_rfl) rfl (by kernel_rfl) rfl (fun i h => by cases h) rfl ?_
  intro hok
  simp only [go_sem] at hok
  simp only [Tryz.f28, Func.code, Option.getD_some]
  simp only [go_sem]
  first | refine branch_ndec (fun h1 => ?_) (fun h1 => ?_) | refine branch_dec (fun h1 => ?_) (fun h1 => ?_) | refine branch_nbool (fun h1 => ?_) (fun h1 => ?_) | refine branch_split (fun h1 => ?_) (fun h1 => ?_)
  rotate_left
  · have : ¬ p = q := fun e => h1 (by rw [e])
    simp only [go_sem, this]
  simp only [go_sem]
  first | refine branch_ndec (fun h2 => ?_) (fun h2 => ?_) | refine branch_dec (fun h2 => ?_) (fun h2 => ?_) | refine branch_nbool (fun h2 => ?_) (fun h2 => ?_) | refine branch_split (fun h2 => ?_) (fun h2 => ?_)
  rotate_left
  · have : ¬ p = q := fun e => h2 (by rw [e])
    simp only [go_sem, this]
  simp only [go_sem]
  first | refine branch_ndec (fun h3 => ?_) (fun h3 => ?_) | refine branch_dec (fun h3 => ?_) (fun h3 => ?_) | refine branch_nbool (fun h3 => ?_) (fun h3 => ?_) | refine branch_split (fun h3 => ?_) (fun h3 => ?_)
  rotate_left
  · have : ¬ p = q := fun e => h3 (by rw [e])
    simp only [go_sem, this]
  simp only [go_sem]
  first | refine branch_ndec (fun h4 => ?_) (fun h4 => ?_) | refine branch_dec (fun h4 => ?_) (fun h4 => ?_) | refine branch_nbool (fun h4 => ?_) (fun h4 => ?_) | refine branch_split (fun h4 => ?_) (fun h4 => ?_)
  rotate_left
  · have : ¬ p = q := fun e => h4 (by rw [e])
    simp only [go_sem, this]
  simp only [go_sem]
  first | refine branch_ndec (fun h5 => ?_) (fun h5 => ?_) | refine branch_dec (fun h5 => ?_) (fun h5 => ?_) | refine branch_nbool (fun h5 => ?_) (fun h5 => ?_) | refine branch_split (fun h5 => ?_) (fun h5 => ?_)
  rotate_left
  · have : ¬ p = q := fun e => h5 (by rw [e])
    simp only [go_sem, this]
  simp only [go_sem]
  first | refine branch_ndec (fun h6 => ?_) (fun h6 => ?_) | refine branch_dec (fun h6 => ?_) (fun h6 => ?_) | refine branch_nbool (fun h6 => ?_) (fun h6 => ?_) | refine branch_split (fun h6 => ?_) (fun h6 => ?_)
  rotate_left
  · have : ¬ p = q := fun e => h6 (by rw [e])
    simp only [go_sem, this]
  simp only [go_sem]
  refine call_lend ?_
  simp only [go_sem]
  refine callN.eq (ok68 p.high q.high) (by simp only [go_sem]) ?_
  simp only [go_sem]
  by_cases h7 : p.high = q.high
  rotate_left
  · have : ¬ p = q := fun e => h7 (by rw [e])
    simp only [go_sem, h7, this]
  simp only [go_sem, eq_true h7]
  refine call_lend ?_
  simp only [go_sem]
  refine callN.eq (ok69 p.blocks q.blocks) (by simp only [go_sem]) ?_
  simp only [go_sem]
  by_cases h8 : p.blocks = q.blocks
  rotate_left
  · have : ¬ p = q := fun e => h8 (by rw [e])
    simp only [go_sem, h8, this]
  simp only [go_sem, eq_true h8]
  refine call_lend ?_
  simp only [go_sem]
  refine callN.eq (ok70 p.votes q.votes) (by simp only [go_sem]) ?_
  simp only [go_sem]
  by_cases h9 : p.votes = q.votes
  rotate_left
  · have : ¬ p = q := fun e => h9 (by rw [e])
    simp only [go_sem, h9, this]
  simp only [go_sem, eq_true h9]
  refine call_lend ?_
  simp only [go_sem]
  refine callN.eq (ok71 p.news q.news) (by simp only [go_sem]) ?_
  simp only [go_sem]
  by_cases h10 : p.news = q.news
  rotate_left
  · have : ¬ p = q := fun e => h10 (by rw [e])
    simp only [go_sem, h10, this]
  simp only [go_sem, eq_true h10]
  refine call_lend ?_
  simp only [go_sem]
  refine callN.eq (ok27 p.done q.done) (by simp only [go_sem]) ?_
  simp only [go_sem]
  by_cases h11 : p.done = q.done
  rotate_left
  · have : ¬ p = q := fun e => h11 (by rw [e])
    simp only [go_sem, h11, this]
  simp only [go_sem, eq_true h11]
  have : p = q := by cases p; cases q; simp_all
  simp only [go_sem, eq_true this]
end Go.VS
set_option linter.unusedSimpArgs false
set_option linter.unusedVariables false
open Go.Proofs
set_option maxRecDepth 20000
namespace Go.VS
theorem f88_at : gz.P.funcs[88]? = some Tryz.f88 := by
  have h : Tryz.prog.funcs[88]? = some Tryz.f88 := by kernel_rfl
  exact h
theorem f89_at : gz.P.funcs[89]? = some Tryz.f89 := by
  have h : Tryz.prog.funcs[89]? = some Tryz.f89 := by kernel_rfl
  exact h
theorem f129_at : gz.P.funcs[129]? = some Tryz.f129 := by
  have h : Tryz.prog.funcs[129]? = some Tryz.f129 := by kernel_rfl
  exact h
theorem f100_at : gz.P.funcs[100]? = some Tryz.f100 := by
  have h : Tryz.prog.funcs[100]? = some Tryz.f100 := by kernel_rfl
  exact h
theorem f127_at : gz.P.funcs[127]? = some Tryz.f127 := by
  have h : Tryz.prog.funcs[127]? = some Tryz.f127 := by kernel_rfl
  exact h
theorem f104_at : gz.P.funcs[104]? = some Tryz.f104 := by
  have h : Tryz.prog.funcs[104]? = some Tryz.f104 := by kernel_rfl
  exact h
theorem f128_at : gz.P.funcs[128]? = some Tryz.f128 := by
  have h : Tryz.prog.funcs[128]? = some Tryz.f128 := by kernel_rfl
  exact h
theorem f101_at : gz.P.funcs[101]? = some Tryz.f101 := by
  have h : Tryz.prog.funcs[101]? = some Tryz.f101 := by kernel_rfl
  exact h
theorem f142_at : gz.P.funcs[142]? = some Tryz.f142 := by
  have h : Tryz.prog.funcs[142]? = some Tryz.f142 := by kernel_rfl
  exact h
theorem f186_at : gz.P.funcs[186]? = some Tryz.f186 := by
  have h : Tryz.prog.funcs[186]? = some Tryz.f186 := by kernel_rfl
  exact h
theorem f165_at : gz.P.funcs[165]? = some Tryz.f165 := by
  have h : Tryz.prog.funcs[165]? = some Tryz.f165 := by kernel_rfl
  exact h
theorem f144_at : gz.P.funcs[144]? = some Tryz.f144 := by
  have h : Tryz.prog.funcs[144]? = some Tryz.f144 := by kernel_rfl
  exact h
theorem f164_at : gz.P.funcs[164]? = some Tryz.f164 := by
  have h : Tryz.prog.funcs[164]? = some Tryz.f164 := by kernel_rfl
  exact h
theorem f169_at : gz.P.funcs[169]? = some Tryz.f169 := by
  have h : Tryz.prog.funcs[169]? = some Tryz.f169 := by kernel_rfl
  exact h
theorem f143_at : gz.P.funcs[143]? = some Tryz.f143 := by
  have h : Tryz.prog.funcs[143]? = some Tryz.f143 := by kernel_rfl
  exact h
theorem f135_at : gz.P.funcs[135]? = some Tryz.f135 := by
  have h : Tryz.prog.funcs[135]? = some Tryz.f135 := by kernel_rfl
  exact h
def srv (n : Int) : Bool := decide (n = 1 ∨ n = 4 ∨ n = 7)
theorem srv_iff {n : Int} : srv n = true ↔ n = 1 ∨ n = 4 ∨ n = 7 := by simp [srv]
def qrm (n : Int) : Int := if srv n = true then n - (n - 1).tdiv 3 else -1
theorem ok88 (n : Int) : VCalls gz 88 [.lit (.int .i64 n)] none (fun y _ => y = .lit (.bool (srv n))) := by
  refine VCalls.go (nt := 13) (keep := [0, 2]) (muts := []) (mvs := []) [] f88_at rfl (by kernel_rfl) rfl (by kernel_rfl) rfl (fun i h => by cases h) rfl ?_
  intro hok
  simp only [go_sem] at hok
  simp only [Tryz.f88, Func.code, Option.getD_some]
  simp only [go_sem]
  by_cases h1 : n = 1
  · subst h1
    simp only [go_sem]
    try rfl
  · by_cases h4 : n = 4
    · subst h4
      simp only [go_sem]
      try rfl
    · by_cases h7 : n = 7
      · subst h7
        simp only [go_sem]
        try rfl
      · have : srv n = false := by simp [srv, h1, h4, h7]
        simp only [go_sem, h1, h4, h7, this]
theorem ok89 (n : Int) : VCalls gz 89 [.lit (.int .i64 n)] none (fun y _ => y = .lit (.bool (decide (0 ≤ n ∧ n ≤ 100000)))) := by
  refine VCalls.go (nt := 5) (keep := [0, 2]) (muts := []) (mvs := []) [] f89_at rfl (by kernel_rfl) rfl (by kernel_rfl) rfl (fun i h => by cases h) rfl ?_
  intro hok
  simp only [go_sem] at hok
  simp only [Tryz.f89, Func.code, Option.getD_some]
  simp only [go_sem]
  refine call_lend ?_
  simp only [go_sem]
  refine callN.eq (ok37 n 0 100000) (by simp only [go_sem]) ?_
  simp only [go_sem]
theorem ok128 (n : Int) : VCalls gz 128 [.lit (.int .i64 n)] none (fun y _ => y = .lit (.bool (decide (0 ≤ n ∧ n ≤ 2147483646)))) := by
  refine VCalls.go (nt := 5) (keep := [0, 2]) (muts := []) (mvs := []) [] f128_at rfl (by kernel_rfl) rfl (by kernel_rfl) rfl (fun i h => by cases h) rfl ?_
  intro hok
  simp only [go_sem] at hok
  simp only [Tryz.f128, Func.code, Option.getD_some]
  simp only [go_sem]
  refine call_lend ?_
  simp only [go_sem]
  refine callN.eq (ok37 n 0 2147483646) (by simp only [go_sem]) ?_
  simp only [go_sem]
theorem ok101 (n : Int) : VCalls gz 101 [.lit (.int .i64 n)] none (fun y _ => y = .lit (.bool (decide (1 ≤ n ∧ n ≤ 100000)))) := by
  refine VCalls.go (nt := 5) (keep := [0, 2]) (muts := []) (mvs := []) [] f101_at rfl (by kernel_rfl) rfl (by kernel_rfl) rfl (fun i h => by cases h) rfl ?_
  intro hok
  simp only [go_sem] at hok
  simp only [Tryz.f101, Func.code, Option.getD_some]
  simp only [go_sem]
  refine call_lend ?_
  simp only [go_sem]
  refine callN.eq (ok50 n 1 100000) (by simp only [go_sem]) ?_
  simp only [go_sem]
theorem ok142 (n : Int) : VCalls gz 142 [.lit (.int .i64 n)] none (fun y _ => y = .lit (.bool (decide (0 ≤ n ∧ n ≤ 2147483646)))) := by
  refine VCalls.go (nt := 5) (keep := [0, 2]) (muts := []) (mvs := []) [] f142_at rfl (by kernel_rfl) rfl (by kernel_rfl) rfl (fun i h => by cases h) rfl ?_
  intro hok
  simp only [go_sem] at hok
  simp only [Tryz.f142, Func.code, Option.getD_some]
  simp only [go_sem]
  refine call_lend ?_
  simp only [go_sem]
  refine callN.eq (ok50 n 0 2147483646) (by simp only [go_sem]) ?_
  simp only [go_sem]
theorem ok186 (n : Int) : VCalls gz 186 [.lit (.int .i64 n)] none (fun y _ => y = .lit (.bool (decide (0 ≤ n ∧ n ≤ 6)))) := by
  refine VCalls.go (nt := 5) (keep := [0, 2]) (muts := []) (mvs := []) [] f186_at rfl (by kernel_rfl) rfl (by kernel_rfl) rfl (fun i h => by cases h) rfl ?_
  intro hok
  simp only [go_sem] at hok
  simp only [Tryz.f186, Func.code, Option.getD_some]
  simp only [go_sem]
  refine call_lend ?_
  simp only [go_sem]
  refine callN.eq (ok50 n 0 6) (by simp only [go_sem]) ?_
  simp only [go_sem]
theorem ok129 (n : Int) : VCalls gz 129 [.lit (.int .i64 n)] none (fun y _ => y = .lit (.int .i64 (qrm n))) := by
  refine VCalls.go (nt := 11) (keep := [0, 2, 5]) (muts := []) (mvs := []) [] f129_at rfl (by kernel_rfl) rfl (by kernel_rfl) rfl (fun i h => by cases h) rfl ?_
  intro hok
  simp only [go_sem] at hok
  simp only [Tryz.f129, Func.code, Option.getD_some]
  simp only [go_sem]
  refine call_lend ?_
  simp only [go_sem]
  refine callN.eq (ok88 n) (by simp only [go_sem]) ?_
  simp only [go_sem]
  cases h : srv n
  · simp only [go_sem]
    simp only [qrm, h, Bool.false_eq_true, if_false]
  · simp only [go_sem]
    rcases srv_iff.1 h with rfl | rfl | rfl <;> rfl
theorem ok100 (n : Int) : VCalls gz 100 [.lit (.int .i64 n)] none (fun y _ => y = .lit (.int .i64 (qrm n))) := by
  refine VCalls.go (nt := 18) (keep := [0, 2, 12]) (muts := []) (mvs := []) [] f100_at rfl (by kernel_rfl) rfl (by kernel_rfl) rfl (fun i h => by cases h) rfl ?_
  intro hok
  simp only [go_sem] at hok
  simp only [Tryz.f100, Func.code, Option.getD_some]
  simp only [go_sem]
  by_cases h1 : n = 1
  · subst h1
    simp only [go_sem]
    try rfl
  · by_cases h4 : n = 4
    · subst h4
      simp only [go_sem]
      try rfl
    · by_cases h7 : n = 7
      · subst h7
        simp only [go_sem]
        try rfl
      · have : srv n = false := by simp [srv, h1, h4, h7]
        simp only [go_sem, h1, h4, h7]
        simp only [qrm, this, Bool.false_eq_true, if_false]
theorem wrap_sum0 {a b : Nat} (ha : a ≤ 9223372036854775807) (hb : b ≤ 9223372036854775807) : (IntKind.i64.wrap ((a : Int) + (b : Int)) = 0) = (a = 0 ∧ b = 0) := by
  apply propext
  simp only [IntKind.wrap, IntKind.bits, IntKind.signed, IntKind.max]
  constructor
  · intro h
    simp at h
    split at h <;> omega
  · rintro ⟨rfl, rfl⟩
    rfl
def Prf.one (p : Prf) : Bool := decide (p.view = 0 ∧ p.name = 0 ∧ p.bys.length = 0 ∧ p.tags.length = 0)
theorem ok127 (p : Prf) : VCalls gz 127 [p.enc false] none (fun y _ => y = .lit (.bool p.one)) := by
  refine VCalls.go (nt := 21) (keep := [0, 1, 2]) (muts := []) (mvs := []) [] f127_at rfl (by kernel_rfl) rfl (by kernel_rfl) rfl (fun i h => by cases h) rfl ?_
  intro hok
  simp only [go_sem] at hok
  simp only [Tryz.f127, Func.code, Option.getD_some]
  simp only [go_sem]
  by_cases h1 : p.view = 0
  · by_cases h2 : p.name = 0
    · simp only [go_sem, h1, h2]
      have hs := wrap_sum0 (a := p.bys.length) (b := p.tags.length) hok.2.2.1.1 hok.2.2.2.1
      simp only [hs, Prf.one, h1, h2, true_and]
      exact fun _ _ => trivial
    · have : p.one = false := by simp [Prf.one, h2]
      simp only [go_sem, h1, h2, this]
  · have : p.one = false := by simp [Prf.one, h1]
    simp only [go_sem, h1, this]
theorem ok104 (p : Prf) : VCalls gz 104 [p.enc false] none (fun y _ => y = .lit (.bool p.one)) := by
  refine VCalls.go (nt := 23) (keep := [0, 1, 2]) (muts := []) (mvs := []) [] f104_at rfl (by kernel_rfl) rfl (by kernel_rfl) rfl (fun i h => by cases h) rfl ?_
  intro hok
  simp only [go_sem] at hok
  simp only [Tryz.f104, Func.code, Option.getD_some]
  simp only [go_sem]
  by_cases h1 : p.view = 0
  · by_cases h2 : p.name = 0
    · by_cases h3 : (p.bys.length : Int) = 0
      · simp only [go_sem, h1, h2, h3]
        have h3' : p.bys.length = 0 := by omega
        have h4 : ((p.tags.length : Int) = 0) = (p.tags.length = 0) := by apply propext; omega
        simp only [Prf.one, h1, h2, h3', h4, true_and]
        exact fun _ _ => trivial
      · have : p.one = false := by simp only [Prf.one, decide_eq_false_iff_not]; omega
        simp only [go_sem, h1, h2, h3, this]
    · have : p.one = false := by simp [Prf.one, h2]
      simp only [go_sem, h1, h2, this]
  · have : p.one = false := by simp [Prf.one, h1]
    simp only [go_sem, h1, this]
def balB (v m : Int) : ByteArray := ⟨#[118, 111, 116, 101, 32]⟩ ++ itoaB v ++ ⟨#[32]⟩ ++ itoaB m
def tagV (s : Int) (t : ByteArray) : Int := dig (⟨#[115, 101, 99, 114, 101, 116]⟩ ++ itoaB s ++ ⟨#[47]⟩ ++ t)
theorem digV_rng (t : ByteArray) : 0 ≤ dig t ∧ dig t < 2147483647 := digN_rng t _
theorem tagV_rng (s : Int) (t : ByteArray) : 0 ≤ tagV s t ∧ tagV s t < 2147483647 := digV_rng _
def rng (n : Int) : Prop := -9223372036854775808 ≤ n ∧ n ≤ 9223372036854775807
theorem balB_size (v m : Int) (hv : rng v) (hm : rng m) : (balB v m).size ≤ 48 := by
  have h1 := itoaB_size v hv
  have h2 := itoaB_size m hm
  have h3 : (⟨#[32]⟩ : ByteArray).size = 1 := rfl
  have h4 : (⟨#[118, 111, 116, 101, 32]⟩ : ByteArray).size = 5 := rfl
  unfold balB
  simp only [ByteArray.size_append, h3, h4]
  omega
theorem ok165 (v m : Int) : VCalls gz 165 [.lit (.int .i64 v), .lit (.int .i64 m)] none (fun y _ => y = .lit (.string (balB v m))) := by
  refine VCalls.go (nt := 12) (keep := [0, 1, 4]) (muts := []) (mvs := []) [] f165_at rfl (by kernel_rfl) rfl (by kernel_rfl) rfl (fun i h => by cases h) rfl ?_
  intro hok
  simp only [go_sem] at hok
  simp only [Tryz.f165, Func.code, Option.getD_some]
  simp only [go_sem]
  have h1 := itoaB_size v hok.1
  have h2 := itoaB_size m hok.2
  have h3 : (#[32] : Array UInt8).size = 1 := rfl
  have h4 : (#[118, 111, 116, 101, 32] : Array UInt8).size = 5 := rfl
  refine call_lend ?_
  simp only [go_sem]
  refine callN.eq (ok78 v) (by simp only [go_sem]) ?_
  simp only [go_sem]
  refine ⟨by omega, by omega, ?_⟩
  refine call_lend ?_
  simp only [go_sem]
  refine callN.eq (ok78 m) (by simp only [go_sem]) ?_
  simp only [go_sem]
  refine ⟨by omega, rfl⟩
theorem ok144 (v m : Int) : VCalls gz 144 [.lit (.int .i64 v), .lit (.int .i64 m)] none (fun y _ => y = .lit (.string (balB v m))) := by
  refine VCalls.go (nt := 12) (keep := [0, 1, 4]) (muts := []) (mvs := []) [] f144_at rfl (by kernel_rfl) rfl (by kernel_rfl) rfl (fun i h => by cases h) rfl ?_
  intro hok
  simp only [go_sem] at hok
  simp only [Tryz.f144, Func.code, Option.getD_some]
  simp only [go_sem]
  have h1 := itoaB_size v hok.1
  have h2 := itoaB_size m hok.2
  have h3 : (#[32] : Array UInt8).size = 1 := rfl
  have h4 : (#[118, 111, 116, 101, 32] : Array UInt8).size = 5 := rfl
  refine call_lend ?_
  simp only [go_sem]
  refine callN.eq (ok122 v) (by simp only [go_sem]) ?_
  simp only [go_sem]
  refine ⟨by omega, by omega, ?_⟩
  refine call_lend ?_
  simp only [go_sem]
  refine callN.eq (ok122 m) (by simp only [go_sem]) ?_
  simp only [go_sem]
  refine ⟨by omega, rfl⟩
theorem ok164 (s : Int) (t : ByteArray) (ht : t.size ≤ 1000000) : VCalls gz 164 [.lit (.int .i64 s), .lit (.string t)] none (fun y _ => y = .lit (.int .i64 (tagV s t))) := by
  refine VCalls.go (nt := 12) (keep := [0, 1, 4]) (muts := []) (mvs := []) [] f164_at rfl (by kernel_rfl) rfl (by kernel_rfl) rfl (fun i h => by cases h) rfl ?_
  intro hok
  simp only [go_sem] at hok
  simp only [Tryz.f164, Func.code, Option.getD_some]
  simp only [go_sem]
  have h1 := itoaB_size s hok.1
  have h3 : (#[47] : Array UInt8).size = 1 := rfl
  have h4 : (#[115, 101, 99, 114, 101, 116] : Array UInt8).size = 6 := rfl
  refine call_lend ?_
  simp only [go_sem]
  refine callN.eq (ok78 s) (by simp only [go_sem]) ?_
  simp only [go_sem]
  refine ⟨by omega, by omega, by omega, ?_⟩
  refine call_lend ?_
  simp only [go_sem]
  refine callN.eq (ok133 (⟨#[115, 101, 99, 114, 101, 116]⟩ ++ itoaB s ++ ⟨#[47]⟩ ++ t)) (by simp only [go_sem]) ?_
  simp only [go_sem]
  try rfl
theorem ok169 (s : Int) (t : ByteArray) (ht : t.size ≤ 1000000) : VCalls gz 169 [.lit (.int .i64 s), .lit (.string t)] none (fun y _ => y = .lit (.int .i64 (if 0 ≤ s ∧ s ≤ 6 then tagV s t else -1))) := by
  refine VCalls.go (nt := 15) (keep := [0, 1, 4, 7]) (muts := []) (mvs := []) [] f169_at rfl (by kernel_rfl) rfl (by kernel_rfl) rfl (fun i h => by cases h) rfl ?_
  intro hok
  simp only [go_sem] at hok
  simp only [Tryz.f169, Func.code, Option.getD_some]
  simp only [go_sem]
  have h1 := itoaB_size s hok.1
  have h3 : (#[47] : Array UInt8).size = 1 := rfl
  have h4 : (#[115, 101, 99, 114, 101, 116] : Array UInt8).size = 6 := rfl
  refine call_lend ?_
  simp only [go_sem]
  refine callN.eq (ok186 s) (by simp only [go_sem]) ?_
  simp only [go_sem]
  by_cases hs : 0 ≤ s ∧ s ≤ 6
  · simp only [eq_true hs, if_true]
    simp only [go_sem]
    refine call_lend ?_
    simp only [go_sem]
    refine callN.eq (ok122 s) (by simp only [go_sem]) ?_
    simp only [go_sem]
    refine ⟨by omega, by omega, by omega, ?_⟩
    refine call_lend ?_
    simp only [go_sem]
    refine callN.eq (ok152 (⟨#[115, 101, 99, 114, 101, 116]⟩ ++ itoaB s ++ ⟨#[47]⟩ ++ t)) (by simp only [go_sem]) ?_
    simp only [go_sem]
    try rfl
  · simp only [hs, if_false]
    simp only [go_sem]
theorem ok143 (s : Int) (t : ByteArray) (g : Int) (hs : 0 ≤ s ∧ s ≤ 6) (ht : t.size ≤ 1000000) : VCalls gz 143 [.lit (.int .i64 s), .lit (.string t), .lit (.int .i64 g)] none (fun y _ => y = .lit (.bool (decide (g = tagV s t)))) := by
  refine VCalls.go (nt := 16) (keep := [0, 1, 2, 6]) (muts := []) (mvs := []) [] f143_at rfl (by kernel_rfl) rfl (by kernel_rfl) rfl (fun i h => by cases h) rfl ?_
  intro hok
  simp only [go_sem] at hok
  simp only [Tryz.f143, Func.code, Option.getD_some]
  simp only [go_sem]
  have hr := tagV_rng s t
  by_cases h1 : g = -1
  · have : ¬ g = tagV s t := by omega
    simp only [go_sem, eq_true h1, this]
  · simp only [go_sem, h1]
    refine call_lend ?_
    simp only [go_sem]
    refine callN.eq (ok169 s t ht) (by simp only [go_sem]) ?_
    simp only [go_sem]
    simp only [go_sem, hs.1, hs.2]
theorem ok135 (s v m : Int) : VCalls gz 135 [.lit (.int .i64 s), .lit (.int .i64 v), .lit (.int .i64 m)] none (fun y _ => y = (Vot.mk v m s (tagV s (balB v m))).enc) := by
  refine VCalls.go (nt := 16) (keep := [0, 1, 2, 6]) (muts := []) (mvs := []) [] f135_at rfl (by kernel_rfl) rfl (by kernel_rfl) rfl (fun i h => by cases h) rfl ?_
  intro hok
  simp only [go_sem] at hok
  simp only [Tryz.f135, Func.code, Option.getD_some]
  simp only [go_sem]
  have hb := balB_size v m hok.2.1 hok.2.2
  refine call_lend ?_
  simp only [go_sem]
  refine callN.eq (ok165 v m) (by simp only [go_sem]) ?_
  simp only [go_sem]
  refine call_lend ?_
  simp only [go_sem]
  refine callN.eq (ok164 s (balB v m) (by omega)) (by simp only [go_sem]) ?_
  simp only [go_sem]
end Go.VS
set_option linter.unusedSimpArgs false
set_option linter.unusedVariables false
open Go.Proofs
set_option maxRecDepth 20000
namespace Go.VS
theorem f93_at : gz.P.funcs[93]? = some Tryz.f93 := by
  have h : Tryz.prog.funcs[93]? = some Tryz.f93 := by kernel_rfl
  exact h
theorem f131_at : gz.P.funcs[131]? = some Tryz.f131 := by
  have h : Tryz.prog.funcs[131]? = some Tryz.f131 := by kernel_rfl
  exact h
theorem f92_at : gz.P.funcs[92]? = some Tryz.f92 := by
  have h : Tryz.prog.funcs[92]? = some Tryz.f92 := by kernel_rfl
  exact h
def Blk.nm (b : Blk) : Int := if dig b.sh < 1 then 1 else dig b.sh
theorem Blk.nm_rng (b : Blk) : 1 ≤ b.nm ∧ b.nm < 2147483647 := by
  have := digV_rng b.sh
  unfold Blk.nm
  split <;> omega
theorem ok93 (b : Blk) : VCalls gz 93 [b.enc false] none (fun y _ => y = .lit (.int .i64 b.nm)) := by
  refine VCalls.go (nt := 7) (keep := [0, 1, 2]) (muts := []) (mvs := []) [] f93_at rfl (by kernel_rfl) rfl (by kernel_rfl) rfl (fun i h => by cases h) rfl ?_
  intro hok
  simp only [go_sem] at hok
  simp only [Tryz.f93, Func.code, Option.getD_some]
  simp only [go_sem]
  refine call_lend ?_
  simp only [go_sem]
  refine callN.eq (ok134 b) (by simp only [go_sem]) ?_
  simp only [go_sem]
  refine call_lend ?_
  simp only [go_sem]
  refine callN.eq (ok133 b.sh) (by simp only [go_sem]) ?_
  simp only [go_sem]
  refine call_lend ?_
  simp only [go_sem]
  refine callN.eq (ok132 1 (dig b.sh)) (by simp only [go_sem]) ?_
  simp only [go_sem]
  try rfl
def fndP (name view : Int) (b : Blk) : Bool := decide (b.view = view) && decide (b.nm = name)
theorem getElem_D {α : Type} [Inhabited α] {xs : List α} {i : Nat} (h : i < xs.length) : xs[i] = xs.getD i default := by simp [List.getD, h]
theorem take_all {α : Type} [Inhabited α] {xs : List α} {p : α → Bool} {i : Nat} (hi : i ≤ xs.length) (h : ∀ j, j < i → p (xs.getD j default) = false) : ∀ x ∈ xs.take i, p x = false := fun x hx => by
  obtain ⟨j, hj, rfl⟩ := List.mem_iff_getElem.1 hx
  rw [List.length_take] at hj
  rw [List.getElem_take, getElem_D (by omega)]
  exact h j (by omega)
theorem nx {P : Nat → Prop} {i : Nat} (he : ∀ j, j < i → P j) (h : P i) : ∀ j, j < i + 1 → P j := fun j hj => by
  by_cases hji : j < i
  · exact he j hji
  · have : j = i := by omega
    subst this
    exact h
theorem ok131 (l : List Blk) (name view : Int) : VCalls gz 131 [.lst false 8 (l.map (Blk.enc false)), .lit (.int .i64 name), .lit (.int .i64 view)] none (fun y _ => y = .lit (.int .i64 (idxOf (fndP name view) l))) := by
  refine VCalls.go (nt := 31) (keep := [0, 1, 2, 6, 7, 11, 29]) (muts := []) (mvs := []) [] f131_at rfl (by kernel_rfl) rfl (by kernel_rfl) rfl (fun i h => by cases h) rfl ?_
  intro hok
  simp only [go_sem] at hok
  simp only [Tryz.f131, Func.code, Option.getD_some]
  simp only [go_sem]
  refine vm_loopK (α := Nat) (fun i => [(0, .lst false 8 (l.map (Blk.enc false))), (1, .lit (.int .i64 name)), (2, .lit (.int .i64 view)), (7, .lit (.int .i64 i))]) (fun i => i ≤ l.length ∧ ∀ j, j < i → fndP name view (l.getD j default) = false) (fun i => l.length - i) 0 ?_ ⟨by omega, fun j hj => by omega⟩ (by kernel_rfl) (fun _ => rfl) ?_
  · simp only [go_sem]
    try rfl
  · rintro i ⟨hi, he⟩ hk
    simp only [go_sem]
    intro _
    first | refine branch_ndec (fun h6 => ?_) (fun h6 => ?_) | refine branch_dec (fun h6 => ?_) (fun h6 => ?_) | refine branch_nbool (fun h6 => ?_) (fun h6 => ?_) | refine branch_split (fun h6 => ?_) (fun h6 => ?_)
    rotate_left
    · have hie : i = l.length := by omega
      have : idxOf (fndP name view) l = -1 := idxOf_none (fun x hx => take_all (i := i) hi he x (by rw [hie, List.take_length]; exact hx))
      simp only [go_sem, this]
    have hlt : i < l.length := by omega
    have h0 : (0 : Int) ≤ (i : Int) := by omega
    have hw3 : IntKind.i64.wrap ((i : Int) + 1) = ((i + 1 : Nat) : Int) := by rw [wrap64 (by omega) (by omega)]; omega
    simp only [go_sem, h0, hlt, h6]
    by_cases h7 : (l.getD i default).view = view
    rotate_left
    · simp only [go_sem, h7, hw3]
      refine again_intro (i + 1) ⟨by omega, nx he (by simp only [fndP, decide_eq_false h7, Bool.false_and])⟩ (by omega) ?_
      simp only [go_sem]
      try rfl
    · simp only [go_sem, eq_true h7, h0, hlt, h6]
      refine call_lend ?_
      simp only [go_sem]
      refine callN.eq (ok93 (l.getD i default)) (by simp only [go_sem]) ?_
      simp only [go_sem]
      by_cases h8 : (l.getD i default).nm = name
      rotate_left
      · simp only [go_sem, h8, hw3]
        refine again_intro (i + 1) ⟨by omega, nx he (by simp only [fndP, decide_eq_false h8, Bool.and_false])⟩ (by omega) ?_
        simp only [go_sem]
        try rfl
      · have : idxOf (fndP name view) l = i := idxOf_hit (take_all hi he) hlt (by rw [getElem_D hlt, fndP, decide_eq_true h7, decide_eq_true h8]; rfl)
        simp only [go_sem, eq_true h8, this]
def knwB (l : List Blk) (p : Prf) : Bool := p.one || l.any (fndP p.name p.view)
theorem ok92 (l : List Blk) (p : Prf) : VCalls gz 92 [.lst false 8 (l.map (Blk.enc false)), p.enc false] none (fun y _ => y = .lit (.bool (knwB l p))) := by
  refine VCalls.go (nt := 16) (keep := [0, 1, 3, 4]) (muts := []) (mvs := []) [] f92_at rfl (by kernel_rfl) rfl (by kernel_rfl) rfl (fun i h => by cases h) rfl ?_
  intro hok
  simp only [go_sem] at hok
  simp only [Tryz.f92, Func.code, Option.getD_some]
  simp only [go_sem]
  refine call_lend ?_
  simp only [go_sem]
  refine callN.eq (ok127 p) (by simp only [go_sem]) ?_
  simp only [go_sem]
  cases h1 : p.one
  · simp only [go_sem]
    refine call_lend ?_
    simp only [go_sem]
    refine callN.eq (ok131 l p.name p.view) (by simp only [go_sem]) ?_
    simp only [go_sem]
    simp only [knwB, h1, Bool.false_or, idxOf_nonneg, Bool.decide_eq_true]
  · simp only [go_sem]
    simp only [knwB, h1, Bool.true_or]
end Go.VS
set_option linter.unusedSimpArgs false
set_option linter.unusedVariables false
open Go.Proofs
set_option maxRecDepth 20000
namespace Go.VS
structure Msg where
  kind : Int
  src : Int
  dst : Int
  view : Int
  block : Blk
  vote : Vot
  proof : Prf
instance : DecidableEq Msg := fun a b => by
  cases a; cases b; simp only [Msg.mk.injEq]; infer_instance
instance : Inhabited Msg := ⟨⟨0, 0, 0, 0, default, default, default⟩⟩
def Msg.enc (own : Bool) (m : Msg) : AVal := .agg [.lit (.int .i64 m.kind), .lit (.int .i64 m.src), .lit (.int .i64 m.dst), .lit (.int .i64 m.view), m.block.enc own, m.vote.enc, m.proof.enc own]
theorem Msg.enc_eq {own : Bool} {m : Msg} : Msg.enc own m = .agg [.lit (.int .i64 m.kind), .lit (.int .i64 m.src), .lit (.int .i64 m.dst), .lit (.int .i64 m.view), m.block.enc own, m.vote.enc, m.proof.enc own] := nr rfl
attribute [go_sem] Msg.enc_eq
theorem msgNoRefs {own : Bool} {xs : List Msg} : noRefs (xs.map (Msg.enc own)) = true := noRefs_map fun x => by simp only [go_sem]
theorem msgClosed {xs : List Msg} : closedAs (xs.map (Msg.enc true)) = true := closedAs_map fun x => by simp only [go_sem]
theorem msgFlat {xs : List Msg} : flatAs (xs.map (Msg.enc false)) = true := flatAs_map fun x => by simp only [go_sem]
theorem msgShds {own : Bool} {xs : List Msg} : toShds (xs.map (Msg.enc own)) = xs.map (Msg.enc false) := toShds_mapTo fun x => by cases own <;> simp only [go_sem]
attribute [go_sem] msgNoRefs msgClosed msgFlat msgShds
end Go.VS
set_option linter.unusedSimpArgs false
set_option linter.unusedVariables false
open Go.Proofs
set_option maxRecDepth 20000
namespace Go.VS
theorem f168_at : gz.P.funcs[168]? = some Tryz.f168 := by
  have h : Tryz.prog.funcs[168]? = some Tryz.f168 := by kernel_rfl
  exact h
theorem f139_at : gz.P.funcs[139]? = some Tryz.f139 := by
  have h : Tryz.prog.funcs[139]? = some Tryz.f139 := by kernel_rfl
  exact h
theorem f105_at : gz.P.funcs[105]? = some Tryz.f105 := by
  have h : Tryz.prog.funcs[105]? = some Tryz.f105 := by kernel_rfl
  exact h
theorem f140_at : gz.P.funcs[140]? = some Tryz.f140 := by
  have h : Tryz.prog.funcs[140]? = some Tryz.f140 := by kernel_rfl
  exact h
structure Pty where
  r : Rpl
  names : List Int
  out : List Msg
def Pty.enc (own : Bool) (p : Pty) : AVal := .agg [p.r.enc own, .lst own 1 (p.names.map intA), .lst own 20 (p.out.map (Msg.enc own))]
theorem Pty.enc_eq {own : Bool} {p : Pty} : Pty.enc own p = .agg [p.r.enc own, .lst own 1 (p.names.map intA), .lst own 20 (p.out.map (Msg.enc own))] := nr rfl
attribute [go_sem] Pty.enc_eq
def isI (n x : Int) : Bool := decide (n = x)
theorem ok168 (l : List Int) (n : Int) : VCalls gz 168 [.lst false 1 (l.map intA), .lit (.int .i64 n)] none (fun y _ => y = .lit (.int .i64 (idxOf (isI n) l))) := by
  refine VCalls.go (nt := 19) (keep := [0, 1, 4, 5, 7, 8, 9, 16]) (muts := []) (mvs := []) [] f168_at rfl (by kernel_rfl) rfl (by kernel_rfl) rfl (fun i h => by cases h) rfl ?_
  intro hok
  simp only [go_sem] at hok
  simp only [Tryz.f168, Func.code, Option.getD_some]
  simp only [go_sem]
  intro hm
  refine vm_loopK (α := Nat) (fun i => [(0, .lst false 1 (l.map intA)), (1, .lit (.int .i64 n)), (7, .lit (.int .i64 l.length)), (8, .lit (.int .i64 i))]) (fun i => i ≤ l.length ∧ ∀ j, j < i → isI n (l.getD j default) = false) (fun i => l.length - i) 0 ?_ ⟨by omega, fun j hj => by omega⟩ (by kernel_rfl) (fun _ => rfl) ?_
  · simp only [go_sem]
    try rfl
  · rintro i ⟨hi, he⟩ hk
    simp only [go_sem]
    first | refine branch_ndec (fun h6 => ?_) (fun h6 => ?_) | refine branch_dec (fun h6 => ?_) (fun h6 => ?_) | refine branch_nbool (fun h6 => ?_) (fun h6 => ?_) | refine branch_split (fun h6 => ?_) (fun h6 => ?_)
    rotate_left
    · have hie : i = l.length := by omega
      have : idxOf (isI n) l = -1 := idxOf_none (fun x hx => take_all (i := i) hi he x (by rw [hie, List.take_length]; exact hx))
      simp only [go_sem, this]
    have hlt : i < l.length := by omega
    have h0 : (0 : Int) ≤ (i : Int) := by omega
    have hw3 : IntKind.i64.wrap ((i : Int) + 1) = ((i + 1 : Nat) : Int) := by rw [wrap64 (by omega) (by omega)]; omega
    simp only [go_sem, h0, hlt, h6]
    first | refine branch_ndec (fun h7 => ?_) (fun h7 => ?_) | refine branch_dec (fun h7 => ?_) (fun h7 => ?_) | refine branch_nbool (fun h7 => ?_) (fun h7 => ?_) | refine branch_split (fun h7 => ?_) (fun h7 => ?_)
    · have : idxOf (isI n) l = i := idxOf_hit (take_all hi he) hlt (by rw [getElem_D hlt, isI, decide_eq_true h7])
      simp only [go_sem, this]
    · simp only [go_sem, hw3]
      refine again_intro (i + 1) ⟨by omega, nx he (by rw [isI, decide_eq_false h7])⟩ (by omega) ?_
      simp only [go_sem]
      try rfl
theorem ok139 (p : Pty) (n : Int) : VCalls gz 139 [.ptr false (p.enc false), .lit (.int .i64 n)] none (fun y _ => y = .lit (.int .i64 (idxOf (isI n) p.names))) := by
  refine VCalls.go (nt := 11) (keep := [0, 1, 4]) (muts := []) (mvs := []) [] f139_at rfl (by kernel_rfl) rfl (by kernel_rfl) rfl (fun i h => by cases h) rfl ?_
  intro hok
  simp only [go_sem] at hok
  simp only [Tryz.f139, Func.code, Option.getD_some]
  simp only [go_sem]
  refine call_lend ?_
  simp only [go_sem]
  refine callN.eq (ok168 p.names n) (by simp only [go_sem]) ?_
  simp only [go_sem]
theorem idxOf_rng {α : Type} (p : α → Bool) (xs : List α) : -1 ≤ idxOf p xs ∧ idxOf p xs < xs.length := by
  unfold idxOf
  split
  · rename_i h
    obtain ⟨x, hx, hp⟩ := List.any_eq_true.1 h
    have := List.findIdx_lt_length_of_exists ⟨x, hx, hp⟩
    omega
  · omega
def Pty.fnd (p : Pty) (n : Int) : Int := idxOf (isI n) p.names
def Pty.has (p : Pty) (n view : Int) : Int := if 0 ≤ p.fnd n ∧ ¬ (p.r.blocks.getD (p.fnd n).toNat default).view = view then -1 else p.fnd n
theorem ok105 (p : Pty) (hl : p.names.length = p.r.blocks.length) (n view : Int) : VCalls gz 105 [.ptr false (p.enc false), .lit (.int .i64 n), .lit (.int .i64 view)] none (fun y _ => y = .lit (.int .i64 (p.has n view))) := by
  refine VCalls.go (nt := 27) (keep := [0, 1, 2, 6, 7, 25]) (muts := []) (mvs := []) [] f105_at rfl (by kernel_rfl) rfl (by kernel_rfl) rfl (fun i h => by cases h) rfl ?_
  intro hok
  simp only [go_sem] at hok
  simp only [Tryz.f105, Func.code, Option.getD_some]
  simp only [go_sem]
  refine call_lend ?_
  simp only [go_sem]
  refine callN.eq (ok139 p n) (by simp only [go_sem]) ?_
  simp only [go_sem]
  have hr := idxOf_rng (isI n) p.names
  have hd : p.fnd n = idxOf (isI n) p.names := rfl
  rw [← hd] at hr ⊢
  by_cases h1 : 0 ≤ p.fnd n
  rotate_left
  · have : p.has n view = p.fnd n := if_neg (fun h => h1 h.1)
    simp only [go_sem, h1, this]
  obtain ⟨f, hf⟩ := Int.eq_ofNat_of_zero_le h1
  have h2 : (0 : Int) ≤ (f : Int) := by omega
  have h3 : (f : Int) < (p.r.blocks.length : Int) := by omega
  have h4 : f < p.r.blocks.length := by omega
  have he : p.has n view = if ¬ (p.r.blocks.getD f default).view = view then -1 else (f : Int) := by
    unfold Pty.has
    rw [hf, Int.toNat_natCast]
    simp only [h2, true_and]
  simp only [go_sem, hf, h2, h3, h4]
  by_cases h5 : (p.r.blocks.getD f default).view = view
  · rw [if_neg (fun h => h h5)] at he
    simp only [go_sem, eq_true h5, he]
  · rw [if_pos h5] at he
    simp only [go_sem, h5, he]
def Pty.knw (p : Pty) (b : Blk) (many : Int) : Bool := (decide (b.parent = 0) && b.proof.one) || (decide (0 ≤ p.has b.parent b.proof.view) && decide (p.has b.parent b.proof.view < many))
theorem ok140 (p : Pty) (hl : p.names.length = p.r.blocks.length) (b : Blk) (many : Int) : VCalls gz 140 [.ptr false (p.enc false), b.enc false, .lit (.int .i64 many)] none (fun y _ => y = .lit (.bool (p.knw b many))) := by
  refine VCalls.go (nt := 30) (keep := [0, 1, 2, 4, 6, 7, 15]) (muts := []) (mvs := []) [] f140_at rfl (by kernel_rfl) rfl (by kernel_rfl) rfl (fun i h => by cases h) rfl ?_
  intro hok
  simp only [go_sem] at hok
  simp only [Tryz.f140, Func.code, Option.getD_some]
  simp only [go_sem]
  have hN : (decide (b.parent = 0) && b.proof.one) = false → p.knw b many = (decide (0 ≤ p.has b.parent b.proof.view) && decide (p.has b.parent b.proof.view < many)) := fun h => by rw [Pty.knw, h, Bool.false_or]
  have hY : (decide (b.parent = 0) && b.proof.one) = true → p.knw b many = true := fun h => by rw [Pty.knw, h, Bool.true_or]
  by_cases h1 : b.parent = 0
  · simp only [go_sem, eq_true h1]
    refine call_lend ?_
    simp only [go_sem]
    refine callN.eq (ok104 b.proof) (by simp only [go_sem]) ?_
    simp only [go_sem]
    cases h2 : b.proof.one
    · have e := hN (by rw [h2, Bool.and_false])
      simp only [go_sem]
      refine call_lend ?_
      simp only [go_sem]
      refine callN.eq (ok105 p hl b.parent b.proof.view) (by simp only [go_sem]) ?_
      simp only [go_sem]
      by_cases h3 : 0 ≤ p.has b.parent b.proof.view
      · simp only [go_sem, eq_true h3, e, decide_true, Bool.true_and]
      · simp only [go_sem, h3, e, decide_false, Bool.false_and]
    · have e := hY (by rw [h2, decide_eq_true h1]; rfl)
      simp only [go_sem, e]
  · have e := hN (by rw [decide_eq_false h1, Bool.false_and])
    simp only [go_sem, h1]
    refine call_lend ?_
    simp only [go_sem]
    refine callN.eq (ok105 p hl b.parent b.proof.view) (by simp only [go_sem]) ?_
    simp only [go_sem]
    by_cases h3 : 0 ≤ p.has b.parent b.proof.view
    · simp only [go_sem, eq_true h3, e, decide_true, Bool.true_and]
    · simp only [go_sem, h3, e, decide_false, Bool.false_and]
end Go.VS
set_option linter.unusedSimpArgs false
set_option linter.unusedVariables false
open Go.Proofs
set_option maxRecDepth 20000
namespace Go.VS
theorem f106_at : gz.P.funcs[106]? = some Tryz.f106 := by
  have h : Tryz.prog.funcs[106]? = some Tryz.f106 := by kernel_rfl
  exact h
def Pty.par (p : Pty) : Nat → Int
  | 0 => 0
  | i + 1 => p.r.done.getD i default
def Pty.dnR (p : Pty) (i : Nat) : Bool := decide (0 ≤ p.fnd (p.r.done.getD i default)) && decide ((p.r.blocks.getD (p.fnd (p.r.done.getD i default)).toNat default).parent = p.par i)
def Pty.dnOk (p : Pty) : Bool := (List.range p.r.done.length).all p.dnR
theorem Pty.dn_bad {p : Pty} {i : Nat} (hi : i < p.r.done.length) (h : p.dnR i = false) : p.dnOk = false :=
  List.all_eq_false.2 ⟨i, List.mem_range.2 hi, by rw [h]; decide⟩
theorem ok106 (p : Pty) (hl : p.names.length = p.r.blocks.length) : VCalls gz 106 [.ptr false (p.enc false)] none (fun y _ => y = .lit (.bool p.dnOk)) := by
  refine VCalls.go (nt := 37) (keep := [0, 2, 3, 5, 6, 11, 12, 13, 14, 34]) (muts := []) (mvs := []) [] f106_at rfl (by kernel_rfl) rfl (by kernel_rfl) rfl (fun i h => by cases h) rfl ?_
  intro hok
  simp only [go_sem] at hok
  simp only [Tryz.f106, Func.code, Option.getD_some]
  simp only [go_sem]
  intro hm
  refine vm_loopK (α := Nat) (fun i => [(0, .ptr false (p.enc false)), (2, .lit (.bool false)), (3, .lit (.int .i64 (p.par i))), (11, .lst false 1 (p.r.done.map intA)), (12, .lit (.int .i64 p.r.done.length)), (13, .lit (.int .i64 i))]) (fun i => i ≤ p.r.done.length ∧ ∀ j, j < i → p.dnR j = true) (fun i => p.r.done.length - i) 0 ?_ ⟨by omega, fun j hj => by omega⟩ (by kernel_rfl) (fun _ => rfl) ?_
  · simp only [go_sem]
    exact ⟨rfl, rfl⟩
  · rintro i ⟨hi, he⟩ hk
    simp only [go_sem]
    first | refine branch_ndec (fun h6 => ?_) (fun h6 => ?_) | refine branch_dec (fun h6 => ?_) (fun h6 => ?_) | refine branch_nbool (fun h6 => ?_) (fun h6 => ?_) | refine branch_split (fun h6 => ?_) (fun h6 => ?_)
    rotate_left
    · have : p.dnOk = true := List.all_eq_true.2 fun x hx => he x (by have := List.mem_range.1 hx; omega)
      simp only [go_sem, this]
    have hlt : i < p.r.done.length := by omega
    have h0 : (0 : Int) ≤ (i : Int) := by omega
    have hw3 : IntKind.i64.wrap ((i : Int) + 1) = ((i + 1 : Nat) : Int) := by rw [wrap64 (by omega) (by omega)]; omega
    simp only [go_sem, h0, hlt, h6]
    refine call_lend ?_
    simp only [go_sem]
    refine callN.eq (ok139 p (p.r.done.getD i default)) (by simp only [go_sem]) ?_
    simp only [go_sem]
    have hr := idxOf_rng (isI (p.r.done.getD i default)) p.names
    have hd : p.fnd (p.r.done.getD i default) = idxOf (isI (p.r.done.getD i default)) p.names := rfl
    rw [← hd] at hr ⊢
    by_cases h1 : 0 ≤ p.fnd (p.r.done.getD i default)
    rotate_left
    · have h1b : p.fnd (p.r.done.getD i default) < 0 := by omega
      have : p.dnOk = false := Pty.dn_bad hlt (by rw [Pty.dnR, decide_eq_false h1, Bool.false_and])
      simp only [go_sem, eq_true h1b, this]
    obtain ⟨f, hf⟩ := Int.eq_ofNat_of_zero_le h1
    have h2 : (0 : Int) ≤ (f : Int) := by omega
    have h2b : ¬ (f : Int) < 0 := by omega
    have h3 : (f : Int) < (p.r.blocks.length : Int) := by omega
    have h4 : f < p.r.blocks.length := by omega
    have hdn : p.dnR i = decide ((p.r.blocks.getD f default).parent = p.par i) := by
      rw [Pty.dnR, decide_eq_true h1, Bool.true_and, hf, Int.toNat_natCast]
    simp only [go_sem, hf, h2, h2b, h3, h4]
    by_cases h5 : (p.r.blocks.getD f default).parent = p.par i
    rotate_left
    · have : p.dnOk = false := Pty.dn_bad hlt (by rw [hdn, decide_eq_false h5])
      simp only [go_sem, h5, this]
    · simp only [go_sem, eq_true h5, hw3]
      refine again_intro (i + 1) ⟨by omega, nx he (by rw [hdn, decide_eq_true h5])⟩ (by omega) ?_
      simp only [go_sem]
      try rfl
end Go.VS
