/- VS: the library's functions, by the contracts of the shelf. -/
import Derived.Test.YtdbfhpndlocilaaGreatDoorVt
import Derived.Test.YtdbfhpndlocilaaGreatDoorVn
import Derived.Lib.ItoaLen
import Derived.Test.YtdbfhpndlocilaaGreatDoorShelf
import Derived.Lib.AtoiErrMem
import Derived.Lib.SplitLaws
set_option linter.unusedSimpArgs false
set_option linter.unusedVariables false
open Go.Proofs
set_option maxRecDepth 20000
namespace Go.VS
theorem byteA_eq {b : UInt8} : byteA b = .lit (.int .u8 b.toNat) := nr rfl
attribute [go_sem] byteA_eq
theorem f50_at : gz.P.funcs[50]? = some Tryz.f50 := by
  have h : Tryz.prog.funcs[50]? = some Tryz.f50 := by kernel_rfl
  exact h
theorem f37_at : gz.P.funcs[37]? = some Tryz.f37 := by
  have h : Tryz.prog.funcs[37]? = some Tryz.f37 := by kernel_rfl
  exact h
theorem ok50 (a b d : Int) : VCalls gz 50 [.lit (.int .i64 a), .lit (.int .i64 b), .lit (.int .i64 d)] none (fun y _ => y = .lit (.bool (decide (b ≤ a ∧ a ≤ d)))) := by
  refine VCalls.go (nt := 15) (keep := [0, 1, 2, 6]) (muts := []) (mvs := []) [] f50_at rfl (by kernel_rfl) rfl (by kernel_rfl) rfl (fun i h => by cases h) rfl ?_
  intro hok
  simp only [go_sem] at hok
  simp only [Tryz.f50, Func.code, Option.getD_some]
  simp only [go_sem]
  first | refine gj_ndec (fun h => ?_) (fun h => ?_) | refine gj_dec (fun h => ?_) (fun h => ?_) | refine gj_nbool (fun h => ?_) (fun h => ?_) | refine gj_bool (fun h => ?_) (fun h => ?_)
  · simp only [go_sem, h]
  · simp only [go_sem, h]
theorem ok37 (a b d : Int) : VCalls gz 37 [.lit (.int .i64 a), .lit (.int .i64 b), .lit (.int .i64 d)] none (fun y _ => y = .lit (.bool (decide (b ≤ a ∧ a ≤ d)))) := by
  refine VCalls.go (nt := 15) (keep := [0, 1, 2, 6]) (muts := []) (mvs := []) [] f37_at rfl (by kernel_rfl) rfl (by kernel_rfl) rfl (fun i h => by cases h) rfl ?_
  intro hok
  simp only [go_sem] at hok
  simp only [Tryz.f37, Func.code, Option.getD_some]
  simp only [go_sem]
  first | refine gj_ndec (fun h => ?_) (fun h => ?_) | refine gj_dec (fun h => ?_) (fun h => ?_) | refine gj_nbool (fun h => ?_) (fun h => ?_) | refine gj_bool (fun h => ?_) (fun h => ?_)
  · simp only [go_sem, h]
  · simp only [go_sem, h]
end Go.VS
set_option linter.unusedSimpArgs false
set_option linter.unusedVariables false
open Go.Proofs
set_option maxRecDepth 20000
namespace Go.VS
def strA (s : ByteArray) : AVal := .lit (.string s)
structure Patch where
  place : Int
  text : ByteArray
  deriving DecidableEq
instance : Inhabited Patch := ⟨⟨0, ByteArray.empty⟩⟩
def Patch.enc (p : Patch) : AVal := .agg [.lit (.int .i64 p.place), .lit (.string p.text)]
structure Dev where
  secs : List ByteArray
  late : List Patch
def Dev.enc (own : Bool) (d : Dev) : AVal := .agg [.lst own 1 (d.secs.map strA), .lst own 2 (d.late.map Patch.enc)]
theorem strA_eq {s : ByteArray} : strA s = .lit (.string s) := nr rfl
theorem Patch.enc_eq {p : Patch} : Patch.enc p = .agg [.lit (.int .i64 p.place), .lit (.string p.text)] := nr rfl
theorem Dev.enc_eq {own : Bool} {d : Dev} : Dev.enc own d = .agg [.lst own 1 (d.secs.map strA), .lst own 2 (d.late.map Patch.enc)] := nr rfl
attribute [go_sem] strA_eq Patch.enc_eq Dev.enc_eq
def Dev.fits (d : Dev) (a : Int) (t : ByteArray) : Bool := decide (0 ≤ a ∧ a ≤ (d.secs.length : Int) - 1) && decide ((t.size : Int) ≤ 400)
def idxOf {α : Type} (p : α → Bool) (xs : List α) : Int := if xs.any p = true then (xs.findIdx p : Int) else -1
theorem idxOf_hit {α : Type} {p : α → Bool} {xs : List α} {i : Nat} (h : ∀ x ∈ xs.take i, p x = false) (hi : i < xs.length) (hp : p xs[i] = true) : idxOf p xs = i := by
  have e : xs = xs.take i ++ xs[i] :: xs.drop (i + 1) := by rw [← List.drop_eq_getElem_cons hi, List.take_append_drop]
  have h1 : xs.any p = true := List.any_eq_true.2 ⟨_, List.getElem_mem hi, hp⟩
  simp only [idxOf, h1, if_true]
  congr 1
  apply (List.findIdx_eq hi).2
  refine ⟨hp, fun j hj => ?_⟩
  refine h _ ?_
  rw [List.mem_take_iff_getElem]
  exact ⟨j, by omega, rfl⟩
theorem idxOf_none {α : Type} {p : α → Bool} {xs : List α} (h : ∀ x ∈ xs, p x = false) : idxOf p xs = -1 := by
  have h1 : xs.any p = false := List.any_eq_false.2 fun x hx => by simp [h x hx]
  simp only [idxOf, h1, Bool.false_eq_true, if_false]
theorem idxOf_nonneg {α : Type} {p : α → Bool} {xs : List α} : (0 ≤ idxOf p xs) ↔ xs.any p = true := by
  unfold idxOf
  split
  · rename_i h
    simp only [h, iff_true]
    omega
  · rename_i h
    simp only [h]
    simp
end Go.VS
set_option linter.unusedSimpArgs false
set_option linter.unusedVariables false
open Go.Proofs Go.RowKit
set_option maxRecDepth 20000
namespace Go.VS
theorem at183 : gz.P.funcs[183]? = some Tryz.f183 := by
  have h : Tryz.prog.funcs[183]? = some Tryz.f183 := by kernel_rfl
  exact h
def itoaB (n : Int) : ByteArray := ⟨(Lib.itoa n).toArray⟩
theorem itoaB_size (n : Int) (h : -9223372036854775808 ≤ n ∧ n ≤ 9223372036854775807) : (itoaB n).size ≤ 21 := by
  have := Lib.itoa_length_le n h.1 h.2
  simpa [itoaB, ByteArray.size] using this
theorem lit_rng {n : Int} (h : litOk (.int .i64 n)) : -9223372036854775808 ≤ n ∧ n ≤ 9223372036854775807 := by
  simpa [litOk, IntKind.min, IntKind.max, IntKind.bits, IntKind.signed] using h
theorem rng_lit {n : Int} (h : -9223372036854775808 ≤ n ∧ n ≤ 9223372036854775807) : IntKind.i64.min ≤ n ∧ n ≤ IntKind.i64.max := by
  simpa [IntKind.min, IntKind.max, IntKind.bits, IntKind.signed] using h
theorem ok183 (n : Int) : VCalls gz 183 [.lit (.int .i64 n), .lit (.int .i64 10)] none (fun y _ => y = .lit (.string (itoaB n))) := by
  refine VCalls.of_bare (enterC at183 (by kernel_rfl) (by kernel_rfl)) rfl fun w S args hsz hg hS hrep => ?_
  obtain ⟨v0, v1, rfl⟩ : ∃ v0 v1, args = #[v0, v1] := by
    match args, hsz with
    | ⟨[v0, v1]⟩, _ => exact ⟨v0, v1, rfl⟩
  obtain ⟨rfl, h0⟩ := (hrep 0 v0 _ rfl rfl).lit
  obtain ⟨rfl, _⟩ := (hrep 1 v1 _ rfl rfl).lit
  have hr := lit_rng h0
  refine (Tryz.internal_strconv_FormatInt_10 n hr.1 hr.2 w (GlTab hg)).mono ?_
  rintro e w' ⟨rfl, k, os, rfl⟩
  exact ⟨⟨_, rfl, .str (by have := itoaB_size n hr; simp only [maxLen]; unfold itoaB at this; omega)⟩, below_growN _ _ _⟩
end Go.VS
set_option linter.unusedSimpArgs false
set_option linter.unusedVariables false
open Go.Proofs
set_option maxRecDepth 20000
namespace Go.VS
theorem f161_at : gz.P.funcs[161]? = some Tryz.f161 := by
  have h : Tryz.prog.funcs[161]? = some Tryz.f161 := by kernel_rfl
  exact h
theorem f122_at : gz.P.funcs[122]? = some Tryz.f122 := by
  have h : Tryz.prog.funcs[122]? = some Tryz.f122 := by kernel_rfl
  exact h
theorem f78_at : gz.P.funcs[78]? = some Tryz.f78 := by
  have h : Tryz.prog.funcs[78]? = some Tryz.f78 := by kernel_rfl
  exact h
theorem bsz (s : ByteArray) : s.size = s.data.toList.length := by rw [Array.length_toList]; rfl
theorem bext {s t : ByteArray} (h : s.data.toList = t.data.toList) : s = t := by
  cases s; cases t; simp only [ByteArray.mk.injEq]; exact Array.toList_inj.1 h
theorem ok161 (n : Int) : VCalls gz 161 [.lit (.int .i64 n), .lit (.int .i64 10)] none (fun y _ => y = .lit (.string (itoaB n))) := by
  refine VCalls.go (nt := 8) (keep := [0, 1, 4]) (muts := []) (mvs := []) [] f161_at rfl (by kernel_rfl) rfl (by kernel_rfl) rfl (fun i h => by cases h) rfl ?_
  intro hok
  simp only [go_sem] at hok
  simp only [Tryz.f161, Func.code, Option.getD_some]
  simp only [go_sem]
  refine call_lend ?_
  simp only [go_sem]
  refine callN.eq (ok183 n) (by simp only [go_sem]) ?_
  simp only [go_sem]
theorem ok122 (n : Int) : VCalls gz 122 [.lit (.int .i64 n)] none (fun y _ => y = .lit (.string (itoaB n))) := by
  refine VCalls.go (nt := 5) (keep := [0, 2]) (muts := []) (mvs := []) [] f122_at rfl (by kernel_rfl) rfl (by kernel_rfl) rfl (fun i h => by cases h) rfl ?_
  intro hok
  simp only [go_sem] at hok
  simp only [Tryz.f122, Func.code, Option.getD_some]
  simp only [go_sem]
  refine call_lend ?_
  simp only [go_sem]
  refine callN.eq (ok161 n) (by simp only [go_sem]) ?_
  simp only [go_sem]
def digN (s : ByteArray) : Nat → Int
  | 0 => 1
  | n + 1 => (digN s n * 1000003 + ((s.data.toList.getD n 0).toNat : Int) + 1).tmod 2147483647
def dig (s : ByteArray) : Int := digN s s.size
theorem u8_lt (c : UInt8) : c.toNat < 256 := c.toNat_lt
end Go.VS
set_option linter.unusedSimpArgs false
set_option linter.unusedVariables false
open Go.Proofs
set_option maxRecDepth 20000
namespace Go.VS
def WInv (n m : Int) (s : ByteArray) : Prop := (0 ≤ n → 0 ≤ m) ∧ (n < 0 → m ≤ 0) ∧ m.natAbs ≤ n.natAbs ∧ ((s = ByteArray.empty ∧ m = n) ∨ (s.size ≠ 0 ∧ Lib.decDigits n.natAbs = (if m = 0 then [] else Lib.decDigits m.natAbs) ++ s.data.toList))
theorem decDigits_step (u : Nat) : Lib.decDigits u = (if u / 10 = 0 then [] else Lib.decDigits (u / 10)) ++ [UInt8.ofNat (48 + u % 10)] := by
  rw [Lib.decDigits]
  split
  · rw [if_pos (by omega), Nat.mod_eq_of_lt (by omega)]; rfl
  · rw [if_neg (by omega)]
theorem WInv.step {n m : Int} {s t : ByteArray} (h : WInv n m s) (hm : s = ByteArray.empty ∨ m ≠ 0) (d : UInt8) (hd : d = UInt8.ofNat (48 + m.natAbs % 10)) (ht : t.data.toList = d :: s.data.toList) : WInv n (m.tdiv 10) t := by
  obtain ⟨h1, h2, h3, h4⟩ := h
  have e1 : (m.tdiv 10).natAbs = m.natAbs / 10 := by rw [Int.natAbs_tdiv]; rfl
  refine ⟨fun h => ?_, fun h => ?_, by omega, .inr ⟨?_, ?_⟩⟩
  · exact Int.tdiv_nonneg (h1 h) (by omega)
  · have := h2 h
    have h5 : 0 ≤ (-m).tdiv 10 := Int.tdiv_nonneg (by omega) (by omega)
    rw [Int.neg_tdiv] at h5
    omega
  · have : t.data.toList.length ≠ 0 := by rw [ht]; simp
    rw [bsz]; exact this
  · have e2 : (m.tdiv 10 = 0) ↔ m.natAbs / 10 = 0 := by omega
    have key : Lib.decDigits n.natAbs = Lib.decDigits m.natAbs ++ s.data.toList := by
      rcases h4 with ⟨rfl, rfl⟩ | ⟨h5, h6⟩
      · simp
      · rcases hm with rfl | hm
        · exact absurd rfl h5
        · rw [if_neg hm] at h6; exact h6
    rw [key, decDigits_step, e1, ht, hd, ite_congr (propext e2) (fun _ => rfl) (fun _ => rfl)]
    simp
theorem WInv.size {n m : Int} {s : ByteArray} (h : WInv n m s) (hn : -9223372036854775808 ≤ n ∧ n ≤ 9223372036854775807) : s.size ≤ 20 := by
  obtain ⟨h1, h2, h3, h4⟩ := h
  rcases h4 with ⟨rfl, rfl⟩ | ⟨_, h6⟩
  · simp
  · have h7 := congrArg List.length h6
    rw [Lib.decDigits_length, List.length_append] at h7
    have := Lib.nDigits_le20 n.natAbs (by omega)
    have := bsz s
    omega
theorem WInv.done {n : Int} {s : ByteArray} (h : WInv n 0 s) (hs : s ≠ ByteArray.empty) : Lib.decDigits n.natAbs = s.data.toList := by
  obtain ⟨h1, h2, h3, h4⟩ := h
  rcases h4 with ⟨rfl, rfl⟩ | ⟨_, h6⟩
  · exact absurd rfl hs
  · simpa using h6
theorem strOfA_one {n : Int} : strOfA [.lit (.int .u8 n)] = some [UInt8.ofNat n.toNat] := nr rfl
attribute [go_sem] strOfA_one
theorem digit_byte {m k : Int} (hk : k = if m.tmod 10 < 0 then IntKind.i64.wrap (0 - m.tmod 10) else m.tmod 10) : UInt8.ofNat (IntKind.u8.wrap (IntKind.i64.wrap (48 + k))).toNat = UInt8.ofNat (48 + m.natAbs % 10) := by
  have h1 : k = ((m.natAbs % 10 : Nat) : Int) := by
    have h2 : (m.tmod 10).natAbs = m.natAbs % 10 := by rw [Int.natAbs_tmod]; rfl
    rw [hk]
    split
    · rw [wrap64 (by omega) (by omega)]; omega
    · omega
  rw [h1]
  simp (disch := omega) only [wrap64, wrapU64, wrapU32, wrapU8]
  congr 1
theorem str_cons (b : UInt8) (s : ByteArray) : ((⟨[b].toArray⟩ : ByteArray) ++ s).data.toList = b :: s.data.toList := by
  rw [ByteArray.data_append, Array.toList_append]; rfl
theorem ok78 (n : Int) : VCalls gz 78 [.lit (.int .i64 n)] none (fun y _ => y = .lit (.string (itoaB n))) := by
  refine VCalls.go (nt := 33) (keep := [0, 2, 3, 4, 5, 13, 17, 29]) (muts := []) (mvs := []) [] f78_at rfl (by kernel_rfl) rfl (by kernel_rfl) rfl (fun i h => by cases h) rfl ?_
  intro hok
  simp only [go_sem] at hok
  simp only [Tryz.f78, Func.code, Option.getD_some]
  simp only [go_sem]
  refine vm_loopK (α := Int × ByteArray) (fun q => [(0, .lit (.int .i64 q.1)), (3, .lit (.string q.2)), (4, .lit (.bool (decide (n < 0))))]) (fun q => WInv n q.1 q.2) (fun q => if q.2 = ByteArray.empty then n.natAbs + 1 else q.1.natAbs) (n, ByteArray.empty) ?_ ⟨fun h => h, fun h => by omega, Nat.le_refl _, .inl ⟨rfl, rfl⟩⟩ (by kernel_rfl) (fun _ => rfl) ?_
  · simp only [go_sem]
    trivial
  · rintro ⟨m, s⟩ hi hk
    simp only at hi
    simp only [go_sem]
    have hs := WInv.size hi hok
    have hm1 := hi.2.2.1
    have ht : (m.tdiv 10).natAbs = m.natAbs / 10 := by rw [Int.natAbs_tdiv]; rfl
    have hz : (⟨[UInt8.ofNat (48 + m.natAbs % 10)].toArray⟩ : ByteArray).size = 1 := rfl
    have hcm : s = ByteArray.empty ∨ m ≠ 0 → WInv n (m.tdiv 10) ((⟨[UInt8.ofNat (48 + m.natAbs % 10)].toArray⟩ : ByteArray) ++ s) := fun h => hi.step h _ rfl (str_cons _ _)
    have hne : ((⟨[UInt8.ofNat (48 + m.natAbs % 10)].toArray⟩ : ByteArray) ++ s) ≠ ByteArray.empty := fun h => by
      have := congrArg ByteArray.size h
      rw [ByteArray.size_append, hz] at this
      simp at this
    have hdone : ¬ s = ByteArray.empty → m = 0 → (if decide (n < 0) = true then ⟨[45].toArray⟩ ++ s else s) = itoaB n := fun h1 h2 => by
      subst h2
      have := hi.done h1
      apply bext
      unfold itoaB Lib.itoa
      by_cases hn : n < 0
      · simp only [hn, decide_true, if_true]
        rw [str_cons]
        simp only [this]
      · simp only [hn, decide_false, if_false]
        have e : n.toNat = n.natAbs := by omega
        simp only [e, this]
        rfl
    first | refine gj_ndec (fun h => ?_) (fun h => ?_) | refine gj_dec (fun h => ?_) (fun h => ?_) | refine gj_nbool (fun h => ?_) (fun h => ?_) | refine gj_bool (fun h => ?_) (fun h => ?_)
    · simp only [go_sem, eq_true h]
      have hmu : (if (⟨[UInt8.ofNat (48 + m.natAbs % 10)].toArray⟩ : ByteArray) ++ s = ByteArray.empty then n.natAbs + 1 else (m.tdiv 10).natAbs) < (if s = ByteArray.empty then n.natAbs + 1 else m.natAbs) := by
        rw [if_neg hne, if_pos (show s = ByteArray.empty from h)]
        have := hi.2.2.1
        omega
      first | refine branch_ndec (fun h1 => ?_) (fun h1 => ?_) | refine branch_dec (fun h1 => ?_) (fun h1 => ?_) | refine branch_nbool (fun h1 => ?_) (fun h1 => ?_) | refine branch_split (fun h1 => ?_) (fun h1 => ?_)
      · simp only [go_sem]
        have hb := digit_byte (m := m) (k := IntKind.i64.wrap (0 - m.tmod 10)) (by simp only [h1, if_true, if_false])
        have hw : IntKind.i64.wrap (m.tdiv 10) = m.tdiv 10 := wrap64 (by omega) (by omega)
        rw [hw, hb]
        have h0 := hcm (.inl h)
        refine ⟨by have : s.size ≤ 20 := hs
                   show 1 + s.size ≤ 9223372036854775807
                   omega, again_intro (m.tdiv 10, (⟨[UInt8.ofNat (48 + m.natAbs % 10)].toArray⟩ : ByteArray) ++ s) h0 hmu ?_⟩
        simp only [go_sem]
      · simp only [go_sem]
        have hb := digit_byte (m := m) (k := m.tmod 10) (by simp only [h1, if_true, if_false])
        have hw : IntKind.i64.wrap (m.tdiv 10) = m.tdiv 10 := wrap64 (by omega) (by omega)
        rw [hw, hb]
        have h0 := hcm (.inl h)
        refine ⟨by have : s.size ≤ 20 := hs
                   show 1 + s.size ≤ 9223372036854775807
                   omega, again_intro (m.tdiv 10, (⟨[UInt8.ofNat (48 + m.natAbs % 10)].toArray⟩ : ByteArray) ++ s) h0 hmu ?_⟩
        simp only [go_sem]
    · simp only [go_sem, h]
      first | refine branch_ndec (fun h2 => ?_) (fun h2 => ?_) | refine branch_dec (fun h2 => ?_) (fun h2 => ?_) | refine branch_nbool (fun h2 => ?_) (fun h2 => ?_) | refine branch_split (fun h2 => ?_) (fun h2 => ?_)
      · simp only [go_sem]
        have hf := hdone h h2
        first | refine branch_ndec (fun h3 => ?_) (fun h3 => ?_) | refine branch_dec (fun h3 => ?_) (fun h3 => ?_) | refine branch_nbool (fun h3 => ?_) (fun h3 => ?_) | refine branch_split (fun h3 => ?_) (fun h3 => ?_)
        · simp only [go_sem]
          rw [if_pos (by simpa using h3)] at hf
          exact ⟨by show 1 + s.size ≤ 9223372036854775807
                    omega, hf⟩
        · simp only [go_sem]
          rw [if_neg (by simpa using h3)] at hf
          exact hf
      · have hmu : (if (⟨[UInt8.ofNat (48 + m.natAbs % 10)].toArray⟩ : ByteArray) ++ s = ByteArray.empty then n.natAbs + 1 else (m.tdiv 10).natAbs) < (if s = ByteArray.empty then n.natAbs + 1 else m.natAbs) := by
          rw [if_neg hne, if_neg (show ¬ s = ByteArray.empty from h)]
          omega
        simp only [go_sem]
        first | refine branch_ndec (fun h1 => ?_) (fun h1 => ?_) | refine branch_dec (fun h1 => ?_) (fun h1 => ?_) | refine branch_nbool (fun h1 => ?_) (fun h1 => ?_) | refine branch_split (fun h1 => ?_) (fun h1 => ?_)
        · simp only [go_sem]
          have hb := digit_byte (m := m) (k := IntKind.i64.wrap (0 - m.tmod 10)) (by simp only [h1, if_true, if_false])
          have hw : IntKind.i64.wrap (m.tdiv 10) = m.tdiv 10 := wrap64 (by omega) (by omega)
          rw [hw, hb]
          have h0 := hcm (.inr h2)
          refine ⟨by have : s.size ≤ 20 := hs
                     show 1 + s.size ≤ 9223372036854775807
                     omega, again_intro (m.tdiv 10, (⟨[UInt8.ofNat (48 + m.natAbs % 10)].toArray⟩ : ByteArray) ++ s) h0 hmu ?_⟩
          simp only [go_sem]
        · simp only [go_sem]
          have hb := digit_byte (m := m) (k := m.tmod 10) (by simp only [h1, if_true, if_false])
          have hw : IntKind.i64.wrap (m.tdiv 10) = m.tdiv 10 := wrap64 (by omega) (by omega)
          rw [hw, hb]
          have h0 := hcm (.inr h2)
          refine ⟨by have : s.size ≤ 20 := hs
                     show 1 + s.size ≤ 9223372036854775807
                     omega, again_intro (m.tdiv 10, (⟨[UInt8.ofNat (48 + m.natAbs % 10)].toArray⟩ : ByteArray) ++ s) h0 hmu ?_⟩
          simp only [go_sem]
end Go.VS
set_option linter.unusedSimpArgs false
set_option linter.unusedVariables false
open Go.Proofs
set_option maxRecDepth 20000
namespace Go.VS
end Go.VS
set_option linter.unusedSimpArgs false
set_option linter.unusedVariables false
open Go.Proofs
set_option maxRecDepth 20000
namespace Go.VS
theorem f84_at : gz.P.funcs[84]? = some Tryz.f84 := by
  have h : Tryz.prog.funcs[84]? = some Tryz.f84 := by kernel_rfl
  exact h
def wordsN (s : ByteArray) : Nat → List ByteArray × Nat
  | 0 => ([], 0)
  | i + 1 => if i = s.size ∨ ((s.data.toList.getD i 0).toNat : Int) = 32 then ((wordsN s i).1 ++ [s.extract (wordsN s i).2 i], i + 1) else wordsN s i
theorem wordsN_le (s : ByteArray) : ∀ i, (wordsN s i).2 ≤ i ∧ (wordsN s i).1.length ≤ i
  | 0 => ⟨Nat.le_refl _, Nat.le_refl _⟩
  | i + 1 => by
    have := wordsN_le s i
    simp only [wordsN]
    split
    · simp; omega
    · omega
def wordsB (s : ByteArray) : List ByteArray := (wordsN s (s.size + 1)).1
theorem ok84 (s : ByteArray) (hs : s.size ≤ 4000000) : VCalls gz 84 [.lit (.string s)] none (fun y _ => y = .lst true 1 ((wordsB s).map strA)) := by
  refine VCalls.go (nt := 33) (keep := [0, 2, 3, 4, 5, 10, 22]) (muts := []) (mvs := []) [] f84_at rfl (by kernel_rfl) rfl (by kernel_rfl) rfl (fun i h => by cases h) rfl ?_
  intro hok
  simp only [go_sem] at hok
  simp only [Tryz.f84, Func.code, Option.getD_some]
  simp only [go_sem]
  refine vm_loopK (α := Nat) (fun i => [(0, .lit (.string s)), (3, .lst true 1 ((wordsN s i).1.map strA)), (4, .lit (.int .i64 (wordsN s i).2)), (5, .lit (.int .i64 i))]) (fun i => i ≤ s.size + 1) (fun i => s.size + 1 - i) 0 ?_ (by simp) (by kernel_rfl) (fun _ => rfl) ?_
  · simp only [go_sem]
    exact ⟨rfl, rfl, rfl⟩
  · intro i hi hk
    have hle := wordsN_le s i
    simp only [go_sem]
    intro hm
    first | refine branch_ndec (fun h => ?_) (fun h => ?_) | refine branch_dec (fun h => ?_) (fun h => ?_) | refine branch_nbool (fun h => ?_) (fun h => ?_) | refine branch_split (fun h => ?_) (fun h => ?_)
    · have hw : IntKind.i64.wrap ((i : Int) + 1) = (i : Int) + 1 := wrap64 (by omega) (by omega)
      simp only [go_sem, hw]
      intro hm2
      first | refine gj_ndec (fun h1 => ?_) (fun h1 => ?_) | refine gj_dec (fun h1 => ?_) (fun h1 => ?_) | refine gj_nbool (fun h1 => ?_) (fun h1 => ?_) | refine gj_bool (fun h1 => ?_) (fun h1 => ?_)
      · have e : i = s.size := by omega
        have hn : wordsN s (i + 1) = ((wordsN s i).1 ++ [s.extract (wordsN s i).2 i], i + 1) := by simp only [wordsN]; rw [if_pos (.inl e)]
        simp only [go_sem, eq_true h1]
        refine ⟨by omega, by omega, by omega, by omega, ?_⟩
        rw [hw]
        refine again_intro (i + 1) (by omega) (by omega) ?_
        simp only [go_sem, hn]
        trivial
      · have hlt : i < s.size := by omega
        have h0 : (0 : Int) ≤ (i : Int) := by omega
        simp only [go_sem, h1, h0, hlt]
        have hlt2 : (i : Int) < (s.size : Int) := by omega
        simp only [go_sem, hlt2]
        first | refine branch_ndec (fun h2 => ?_) (fun h2 => ?_) | refine branch_dec (fun h2 => ?_) (fun h2 => ?_) | refine branch_nbool (fun h2 => ?_) (fun h2 => ?_) | refine branch_split (fun h2 => ?_) (fun h2 => ?_)
        · have hn : wordsN s (i + 1) = ((wordsN s i).1 ++ [s.extract (wordsN s i).2 i], i + 1) := by simp only [wordsN]; rw [if_pos (.inr h2)]
          simp only [go_sem]
          refine ⟨by omega, by omega, by omega, by omega, ?_⟩
          rw [hw]
          refine again_intro (i + 1) (by omega) (by omega) ?_
          simp only [go_sem, hn]
          trivial
        · have hn : wordsN s (i + 1) = wordsN s i := by simp only [wordsN]; rw [if_neg (by omega)]
          simp only [go_sem, hw]
          refine again_intro (i + 1) (by omega) (by omega) ?_
          simp only [go_sem, hn]
          rfl
    · simp only [go_sem]
      have : i = s.size + 1 := by omega
      subst this
      rfl
end Go.VS
set_option linter.unusedSimpArgs false
set_option linter.unusedVariables false
open Go.Proofs
set_option maxRecDepth 20000
namespace Go.VS
theorem f85_at : gz.P.funcs[85]? = some Tryz.f85 := by
  have h : Tryz.prog.funcs[85]? = some Tryz.f85 := by kernel_rfl
  exact h
theorem pow_nDigits_le (u : Nat) : 1 ≤ u → 10 ^ (Lib.nDigits u - 1) ≤ u := by
  induction u using Nat.strongRecOn with
  | _ u ih =>
    intro h1
    by_cases h : u < 10
    · rw [Lib.nDigits_small h]; simpa using h1
    · have h2 := ih (u / 10) (by omega) (by omega)
      have h3 := Lib.nDigits_pos (u / 10)
      rw [Lib.nDigits_big h]
      have e : Lib.nDigits (u / 10) + 1 - 1 = (Lib.nDigits (u / 10) - 1) + 1 := by omega
      rw [e, Nat.pow_succ]
      omega
structure Num (k : Nat) (s : ByteArray) : Prop where
  sz : 1 ≤ s.size ∧ s.size ≤ 10
  at' : ∀ j, j < s.size → (s.data.toList.getD j 0).toNat = 48 + k / 10 ^ (s.size - 1 - j) % 10
  hd : 1 < s.size → k / 10 ^ (s.size - 1) % 10 ≠ 0
  all : k / 10 ^ s.size = 0
theorem itoaB_num {k : Nat} (h0 : 0 ≤ k) (h2 : k < 10000000000) : Num k (itoaB k) := by
  have hsz : (itoaB k).size = Lib.nDigits k := by
    rw [bsz]
    show ((Lib.itoa k).toArray.toList).length = _
    rw [Lib.itoa_nonneg, List.toList_toArray, Lib.decDigits_length]
  have p1 := Lib.nDigits_pos k
  have p2 := Lib.lt_pow_nDigits k
  have p0 : k = 0 → Lib.nDigits k = 1 := fun h => by rw [h, Lib.nDigits_small (by omega)]
  have p3 : 1 ≤ k → 10 ^ (Lib.nDigits k - 1) ≤ k := fun h1 => pow_nDigits_le k h1
  have p4 : Lib.nDigits k ≤ 10 := by
    rcases Nat.eq_zero_or_pos k with hk | hk
    · rw [p0 hk]; decide
    have p3 := p3 hk
    refine Nat.le_of_not_lt fun h => ?_
    have : 10 ^ 10 ≤ 10 ^ (Lib.nDigits k - 1) := Nat.pow_le_pow_right (by decide) (by omega)
    omega
  refine ⟨by omega, fun j hj => ?_, ?_, ?_⟩
  · rw [hsz] at hj ⊢
    show (((Lib.itoa k).toArray.toList).getD j 0).toNat = _
    rw [Lib.itoa_nonneg, List.toList_toArray, Lib.decDigits_eq]
    simp only [List.getD, List.getElem?_map, List.getElem?_range hj, Option.map_some, Option.getD_some, Lib.dg]
    have : k / 10 ^ (Lib.nDigits k - 1 - j) % 10 < 10 := Nat.mod_lt _ (by decide)
    rw [UInt8.toNat_ofNat']
    omega
  · rw [hsz]
    intro h9
    have hk : 1 ≤ k := Nat.pos_of_ne_zero fun h => by rw [p0 h] at h9; omega
    have p3 := p3 hk
    have h5 : 1 ≤ k / 10 ^ (Lib.nDigits k - 1) := (Nat.le_div_iff_mul_le (Nat.pow_pos (by decide))).2 (by omega)
    have h6 : k / 10 ^ (Lib.nDigits k - 1) < 10 := by
      refine (Nat.div_lt_iff_lt_mul (Nat.pow_pos (by decide))).2 ?_
      have e : 10 * 10 ^ (Lib.nDigits k - 1) = 10 ^ Lib.nDigits k := by
        rw [Nat.mul_comm, ← Nat.pow_succ]; congr 1; omega
      omega
    omega
  · rw [hsz]
    exact Nat.div_eq_of_lt p2
theorem Num.step {k : Nat} {s : ByteArray} (h : Num k s) {i : Nat} (hi : i < s.size) : k / 10 ^ (s.size - (i + 1)) = k / 10 ^ (s.size - i) * 10 + k / 10 ^ (s.size - 1 - i) % 10 := by
  have e1 : s.size - (i + 1) = s.size - 1 - i := by omega
  have e2 : s.size - i = (s.size - 1 - i) + 1 := by omega
  rw [e1, e2, Nat.pow_succ, ← Nat.div_div_eq_div_mul]
  omega
theorem Num.pos {k : Nat} {s : ByteArray} (h : Num k s) : ¬ (((s.data.toList.getD 0 0).toNat : Int) = 45) := by
  have := h.at' 0 (by have := h.sz; omega)
  omega
theorem Num.dig {k : Nat} {s : ByteArray} (h : Num k s) {i : Nat} (hi : i < s.size) : 48 ≤ ((s.data.toList.getD i 0).toNat : Int) ∧ ((s.data.toList.getD i 0).toNat : Int) ≤ 57 := by
  have := h.at' i hi
  omega
theorem ok85 (s : ByteArray) (k : Nat) : VCalls gz 85 [.lit (.string s)] none (fun y _ => ∃ n b, y = .tup [.lit (.int .i64 n), .lit (.bool b)] ∧ (Num k s → n = k ∧ b = true)) := by
  refine VCalls.go (nt := 68) (keep := [0, 2, 3, 4, 5, 6, 7, 14, 26, 31, 43, 63, 64]) (muts := []) (mvs := []) [] f85_at rfl (by kernel_rfl) rfl (by kernel_rfl) rfl (fun i h => by cases h) rfl ?_
  intro hok
  simp only [go_sem] at hok
  simp only [Tryz.f85, Func.code, Option.getD_some]
  simp only [go_sem]
  first | refine gj_ndec (fun h => ?_) (fun h => ?_) | refine gj_dec (fun h => ?_) (fun h => ?_) | refine gj_nbool (fun h => ?_) (fun h => ?_) | refine gj_bool (fun h => ?_) (fun h => ?_)
  · simp only [go_sem, eq_true h]
    have hz : s.size = 0 := by rw [h]; rfl
    have hf : Num k s → (0 : Int) = 0 := fun _ => rfl
    have hw1 : IntKind.i64.wrap ((s.size : Int) - 0) = (s.size : Int) - 0 := wrap64 (by omega) (by omega)
    intro _
    rw [hw1]
    first | refine gj_ndec (fun h3 => ?_) (fun h3 => ?_) | refine gj_dec (fun h3 => ?_) (fun h3 => ?_) | refine gj_nbool (fun h3 => ?_) (fun h3 => ?_) | refine gj_bool (fun h3 => ?_) (fun h3 => ?_)
    · simp only [go_sem, h3]
      exact ⟨_, _, ⟨rfl, rfl⟩, fun hn => by have := hn.sz; have := hf hn; omega⟩
    · have h30 : ¬ ((s.size : Int) - 0 < 1) := h3
      simp only [go_sem, h30]
      intro _
      first | refine branch_ndec (fun h4 => ?_) (fun h4 => ?_) | refine branch_dec (fun h4 => ?_) (fun h4 => ?_) | refine branch_nbool (fun h4 => ?_) (fun h4 => ?_) | refine branch_split (fun h4 => ?_) (fun h4 => ?_)
      · simp only [go_sem]
        exact ⟨_, _, ⟨rfl, rfl⟩, fun hn => by have := hn.sz; have := hf hn; omega⟩
      · simp only [go_sem]
        rw [hw1] at h4
        refine vm_loopK (α := Nat × Int) (fun q => [(0, .lit (.string s)), (4, .lit (.int .i64 0)), (5, .lit (.bool false)), (6, .lit (.int .i64 q.2)), (7, .lit (.int .i64 q.1)) ]) (fun q => q.1 ≤ s.size ∧ (0 ≤ q.2 ∧ q.2 < (10 ^ q.1 : Nat)) ∧ (Num k s → q.2 = (k / 10 ^ (s.size - q.1) : Nat))) (fun q => s.size - q.1) (0, 0) ?_ ?_ (by kernel_rfl) (fun _ => rfl) ?_
        · simp only [go_sem]
          trivial
        · exact ⟨by simp only; omega, ⟨by simp only; omega, by decide⟩, fun hn => by
            first
              | exact absurd (hf hn) (by decide)
              | (show (0 : Int) = ((k / 10 ^ (s.size - 0) : Nat) : Int); rw [Nat.sub_zero, hn.all]; rfl)⟩
        · rintro ⟨i, v⟩ hi hk
          simp only at hi
          obtain ⟨i1, ⟨i2, i3⟩, i4⟩ := hi
          have i5 : 10 ^ i ≤ 10 ^ 11 := Nat.pow_le_pow_right (by decide) (by omega)
          simp only [go_sem]
          intro _
          first | refine branch_ndec (fun h5 => ?_) (fun h5 => ?_) | refine branch_dec (fun h5 => ?_) (fun h5 => ?_) | refine branch_nbool (fun h5 => ?_) (fun h5 => ?_) | refine branch_split (fun h5 => ?_) (fun h5 => ?_)
          · have hlt : i < s.size := by omega
            have h0 : (0 : Int) ≤ (i : Int) := by omega
            have hc := u8_lt (s.data.toList.getD i 0)
            simp only [go_sem, h0, h5, hlt]
            first | refine gj_ndec (fun h6 => ?_) (fun h6 => ?_) | refine gj_dec (fun h6 => ?_) (fun h6 => ?_) | refine gj_nbool (fun h6 => ?_) (fun h6 => ?_) | refine gj_bool (fun h6 => ?_) (fun h6 => ?_)
            · simp only [go_sem, h6]
              exact ⟨_, _, ⟨rfl, rfl⟩, fun hn => by have := hn.dig hlt; omega⟩
            · simp only [go_sem, h6, h0, hlt]
              refine ⟨by omega, ?_⟩
              first | refine branch_ndec (fun h7 => ?_) (fun h7 => ?_) | refine branch_dec (fun h7 => ?_) (fun h7 => ?_) | refine branch_nbool (fun h7 => ?_) (fun h7 => ?_) | refine branch_split (fun h7 => ?_) (fun h7 => ?_)
              · simp only [go_sem]
                exact ⟨_, _, ⟨rfl, rfl⟩, fun hn => by have := hn.dig hlt; omega⟩
              · simp only [go_sem, h0, h5]
                simp (disch := omega) only [wrap64, wrapU64, wrapU32, wrapU8]
                have hinv : i + 1 ≤ s.size ∧ (0 ≤ v * 10 + (((s.data.toList.getD i 0).toNat : Int) - 48) ∧ v * 10 + (((s.data.toList.getD i 0).toNat : Int) - 48) < ((10 ^ (i + 1) : Nat) : Int)) ∧ (Num k s → v * 10 + (((s.data.toList.getD i 0).toNat : Int) - 48) = ((k / 10 ^ (s.size - (i + 1)) : Nat) : Int)) := ⟨by omega, ⟨by omega, by simp only [Nat.pow_succ]; omega⟩, fun hn => by
                  have p1 := i4 hn
                  have p2 := hn.step hlt
                  have p3 := hn.at' i hlt
                  rw [p2, p1, p3]
                  omega⟩
                refine again_intro (i + 1, v * 10 + (((s.data.toList.getD i 0).toNat : Int) - 48)) hinv (by simp only; omega) ?_
                simp only [go_sem]
                trivial
          · have e : i = s.size := by omega
            subst e
            have hv : Num k s → v = k := fun hn => by have := i4 hn; simpa using this
            simp only [go_sem]
            refine ⟨by omega, ?_⟩
            first | refine gj_ndec (fun h8 => ?_) (fun h8 => ?_) | refine gj_dec (fun h8 => ?_) (fun h8 => ?_) | refine gj_nbool (fun h8 => ?_) (fun h8 => ?_) | refine gj_bool (fun h8 => ?_) (fun h8 => ?_)
            · simp only [go_sem, h8]
              intro _
              first | refine branch_ndec (fun h9 => ?_) (fun h9 => ?_) | refine branch_dec (fun h9 => ?_) (fun h9 => ?_) | refine branch_nbool (fun h9 => ?_) (fun h9 => ?_) | refine branch_split (fun h9 => ?_) (fun h9 => ?_)
              · simp only [go_sem]
                exact ⟨_, _, ⟨rfl, rfl⟩, fun hn => by have := hn.hd (by omega); have := hn.at' 0 (by omega); simp only [Nat.sub_zero] at this; omega⟩
              · simp only [go_sem]
                exact ⟨_, _, ⟨rfl, rfl⟩, fun hn => ⟨hv hn, rfl⟩⟩
            · simp only [go_sem, h8]
              exact ⟨_, _, ⟨rfl, rfl⟩, fun hn => ⟨hv hn, rfl⟩⟩
  · simp only [go_sem, h]
    have hz : 0 < s.size := Nat.pos_of_ne_zero fun hz => by
      have : s.data.toList = [] := List.eq_nil_of_length_eq_zero (by rw [← bsz]; exact hz)
      exact h (bext (this.trans rfl))
    refine ⟨by omega, ?_⟩
    first | refine branch_ndec (fun h2 => ?_) (fun h2 => ?_) | refine branch_dec (fun h2 => ?_) (fun h2 => ?_) | refine branch_nbool (fun h2 => ?_) (fun h2 => ?_) | refine branch_split (fun h2 => ?_) (fun h2 => ?_)
    · simp only [go_sem]
      have hf : Num k s → (1 : Int) = 0 := fun hn => absurd h2 hn.pos
      have hw1 : IntKind.i64.wrap ((s.size : Int) - 1) = (s.size : Int) - 1 := wrap64 (by omega) (by omega)
      intro _
      rw [hw1]
      first | refine gj_ndec (fun h3 => ?_) (fun h3 => ?_) | refine gj_dec (fun h3 => ?_) (fun h3 => ?_) | refine gj_nbool (fun h3 => ?_) (fun h3 => ?_) | refine gj_bool (fun h3 => ?_) (fun h3 => ?_)
      · simp only [go_sem, h3]
        exact ⟨_, _, ⟨rfl, rfl⟩, fun hn => by have := hn.sz; have := hf hn; omega⟩
      · have h30 : ¬ ((s.size : Int) - 1 < 1) := h3
        simp only [go_sem, h30]
        intro _
        first | refine branch_ndec (fun h4 => ?_) (fun h4 => ?_) | refine branch_dec (fun h4 => ?_) (fun h4 => ?_) | refine branch_nbool (fun h4 => ?_) (fun h4 => ?_) | refine branch_split (fun h4 => ?_) (fun h4 => ?_)
        · simp only [go_sem]
          exact ⟨_, _, ⟨rfl, rfl⟩, fun hn => by have := hn.sz; have := hf hn; omega⟩
        · simp only [go_sem]
          rw [hw1] at h4
          refine vm_loopK (α := Nat × Int) (fun q => [(0, .lit (.string s)), (4, .lit (.int .i64 1)), (5, .lit (.bool true)), (6, .lit (.int .i64 q.2)), (7, .lit (.int .i64 q.1)) ]) (fun q => q.1 ≤ s.size ∧ (0 ≤ q.2 ∧ q.2 < (10 ^ q.1 : Nat)) ∧ (Num k s → q.2 = (k / 10 ^ (s.size - q.1) : Nat))) (fun q => s.size - q.1) (1, 0) ?_ ?_ (by kernel_rfl) (fun _ => rfl) ?_
          · simp only [go_sem]
            trivial
          · exact ⟨by simp only; omega, ⟨by simp only; omega, by decide⟩, fun hn => by
              first
                | exact absurd (hf hn) (by decide)
                | (show (0 : Int) = ((k / 10 ^ (s.size - 0) : Nat) : Int); rw [Nat.sub_zero, hn.all]; rfl)⟩
          · rintro ⟨i, v⟩ hi hk
            simp only at hi
            obtain ⟨i1, ⟨i2, i3⟩, i4⟩ := hi
            have i5 : 10 ^ i ≤ 10 ^ 11 := Nat.pow_le_pow_right (by decide) (by omega)
            simp only [go_sem]
            intro _
            first | refine branch_ndec (fun h5 => ?_) (fun h5 => ?_) | refine branch_dec (fun h5 => ?_) (fun h5 => ?_) | refine branch_nbool (fun h5 => ?_) (fun h5 => ?_) | refine branch_split (fun h5 => ?_) (fun h5 => ?_)
            · have hlt : i < s.size := by omega
              have h0 : (0 : Int) ≤ (i : Int) := by omega
              have hc := u8_lt (s.data.toList.getD i 0)
              simp only [go_sem, h0, h5, hlt]
              first | refine gj_ndec (fun h6 => ?_) (fun h6 => ?_) | refine gj_dec (fun h6 => ?_) (fun h6 => ?_) | refine gj_nbool (fun h6 => ?_) (fun h6 => ?_) | refine gj_bool (fun h6 => ?_) (fun h6 => ?_)
              · simp only [go_sem, h6]
                exact ⟨_, _, ⟨rfl, rfl⟩, fun hn => by have := hn.dig hlt; omega⟩
              · simp only [go_sem, h6, h0, hlt]
                refine ⟨by omega, ?_⟩
                first | refine branch_ndec (fun h7 => ?_) (fun h7 => ?_) | refine branch_dec (fun h7 => ?_) (fun h7 => ?_) | refine branch_nbool (fun h7 => ?_) (fun h7 => ?_) | refine branch_split (fun h7 => ?_) (fun h7 => ?_)
                · simp only [go_sem]
                  exact ⟨_, _, ⟨rfl, rfl⟩, fun hn => by have := hn.dig hlt; omega⟩
                · simp only [go_sem, h0, h5]
                  simp (disch := omega) only [wrap64, wrapU64, wrapU32, wrapU8]
                  have hinv : i + 1 ≤ s.size ∧ (0 ≤ v * 10 + (((s.data.toList.getD i 0).toNat : Int) - 48) ∧ v * 10 + (((s.data.toList.getD i 0).toNat : Int) - 48) < ((10 ^ (i + 1) : Nat) : Int)) ∧ (Num k s → v * 10 + (((s.data.toList.getD i 0).toNat : Int) - 48) = ((k / 10 ^ (s.size - (i + 1)) : Nat) : Int)) := ⟨by omega, ⟨by omega, by simp only [Nat.pow_succ]; omega⟩, fun hn => by
                    have p1 := i4 hn
                    have p2 := hn.step hlt
                    have p3 := hn.at' i hlt
                    rw [p2, p1, p3]
                    omega⟩
                  refine again_intro (i + 1, v * 10 + (((s.data.toList.getD i 0).toNat : Int) - 48)) hinv (by simp only; omega) ?_
                  simp only [go_sem]
                  trivial
            · have e : i = s.size := by omega
              subst e
              have hv : Num k s → v = k := fun hn => by have := i4 hn; simpa using this
              simp only [go_sem]
              refine ⟨by omega, ?_⟩
              first | refine gj_ndec (fun h8 => ?_) (fun h8 => ?_) | refine gj_dec (fun h8 => ?_) (fun h8 => ?_) | refine gj_nbool (fun h8 => ?_) (fun h8 => ?_) | refine gj_bool (fun h8 => ?_) (fun h8 => ?_)
              · simp only [go_sem, h8]
                exact ⟨_, _, ⟨rfl, rfl⟩, fun hn => by have := hf hn; omega⟩
              · simp only [go_sem, h8]
                exact ⟨_, _, ⟨rfl, rfl⟩, fun hn => by have := hf hn; omega⟩
    · simp only [go_sem]
      have hf : Num k s → (0 : Int) = 0 := fun _ => rfl
      have hw1 : IntKind.i64.wrap ((s.size : Int) - 0) = (s.size : Int) - 0 := wrap64 (by omega) (by omega)
      intro _
      rw [hw1]
      first | refine gj_ndec (fun h3 => ?_) (fun h3 => ?_) | refine gj_dec (fun h3 => ?_) (fun h3 => ?_) | refine gj_nbool (fun h3 => ?_) (fun h3 => ?_) | refine gj_bool (fun h3 => ?_) (fun h3 => ?_)
      · simp only [go_sem, h3]
        exact ⟨_, _, ⟨rfl, rfl⟩, fun hn => by have := hn.sz; have := hf hn; omega⟩
      · have h30 : ¬ ((s.size : Int) - 0 < 1) := h3
        simp only [go_sem, h30]
        intro _
        first | refine branch_ndec (fun h4 => ?_) (fun h4 => ?_) | refine branch_dec (fun h4 => ?_) (fun h4 => ?_) | refine branch_nbool (fun h4 => ?_) (fun h4 => ?_) | refine branch_split (fun h4 => ?_) (fun h4 => ?_)
        · simp only [go_sem]
          exact ⟨_, _, ⟨rfl, rfl⟩, fun hn => by have := hn.sz; have := hf hn; omega⟩
        · simp only [go_sem]
          rw [hw1] at h4
          refine vm_loopK (α := Nat × Int) (fun q => [(0, .lit (.string s)), (4, .lit (.int .i64 0)), (5, .lit (.bool false)), (6, .lit (.int .i64 q.2)), (7, .lit (.int .i64 q.1)) ]) (fun q => q.1 ≤ s.size ∧ (0 ≤ q.2 ∧ q.2 < (10 ^ q.1 : Nat)) ∧ (Num k s → q.2 = (k / 10 ^ (s.size - q.1) : Nat))) (fun q => s.size - q.1) (0, 0) ?_ ?_ (by kernel_rfl) (fun _ => rfl) ?_
          · simp only [go_sem]
            trivial
          · exact ⟨by simp only; omega, ⟨by simp only; omega, by decide⟩, fun hn => by
              first
                | exact absurd (hf hn) (by decide)
                | (show (0 : Int) = ((k / 10 ^ (s.size - 0) : Nat) : Int); rw [Nat.sub_zero, hn.all]; rfl)⟩
          · rintro ⟨i, v⟩ hi hk
            simp only at hi
            obtain ⟨i1, ⟨i2, i3⟩, i4⟩ := hi
            have i5 : 10 ^ i ≤ 10 ^ 11 := Nat.pow_le_pow_right (by decide) (by omega)
            simp only [go_sem]
            intro _
            first | refine branch_ndec (fun h5 => ?_) (fun h5 => ?_) | refine branch_dec (fun h5 => ?_) (fun h5 => ?_) | refine branch_nbool (fun h5 => ?_) (fun h5 => ?_) | refine branch_split (fun h5 => ?_) (fun h5 => ?_)
            · have hlt : i < s.size := by omega
              have h0 : (0 : Int) ≤ (i : Int) := by omega
              have hc := u8_lt (s.data.toList.getD i 0)
              simp only [go_sem, h0, h5, hlt]
              first | refine gj_ndec (fun h6 => ?_) (fun h6 => ?_) | refine gj_dec (fun h6 => ?_) (fun h6 => ?_) | refine gj_nbool (fun h6 => ?_) (fun h6 => ?_) | refine gj_bool (fun h6 => ?_) (fun h6 => ?_)
              · simp only [go_sem, h6]
                exact ⟨_, _, ⟨rfl, rfl⟩, fun hn => by have := hn.dig hlt; omega⟩
              · simp only [go_sem, h6, h0, hlt]
                refine ⟨by omega, ?_⟩
                first | refine branch_ndec (fun h7 => ?_) (fun h7 => ?_) | refine branch_dec (fun h7 => ?_) (fun h7 => ?_) | refine branch_nbool (fun h7 => ?_) (fun h7 => ?_) | refine branch_split (fun h7 => ?_) (fun h7 => ?_)
                · simp only [go_sem]
                  exact ⟨_, _, ⟨rfl, rfl⟩, fun hn => by have := hn.dig hlt; omega⟩
                · simp only [go_sem, h0, h5]
                  simp (disch := omega) only [wrap64, wrapU64, wrapU32, wrapU8]
                  have hinv : i + 1 ≤ s.size ∧ (0 ≤ v * 10 + (((s.data.toList.getD i 0).toNat : Int) - 48) ∧ v * 10 + (((s.data.toList.getD i 0).toNat : Int) - 48) < ((10 ^ (i + 1) : Nat) : Int)) ∧ (Num k s → v * 10 + (((s.data.toList.getD i 0).toNat : Int) - 48) = ((k / 10 ^ (s.size - (i + 1)) : Nat) : Int)) := ⟨by omega, ⟨by omega, by simp only [Nat.pow_succ]; omega⟩, fun hn => by
                    have p1 := i4 hn
                    have p2 := hn.step hlt
                    have p3 := hn.at' i hlt
                    rw [p2, p1, p3]
                    omega⟩
                  refine again_intro (i + 1, v * 10 + (((s.data.toList.getD i 0).toNat : Int) - 48)) hinv (by simp only; omega) ?_
                  simp only [go_sem]
                  trivial
            · have e : i = s.size := by omega
              subst e
              have hv : Num k s → v = k := fun hn => by have := i4 hn; simpa using this
              simp only [go_sem]
              refine ⟨by omega, ?_⟩
              first | refine gj_ndec (fun h8 => ?_) (fun h8 => ?_) | refine gj_dec (fun h8 => ?_) (fun h8 => ?_) | refine gj_nbool (fun h8 => ?_) (fun h8 => ?_) | refine gj_bool (fun h8 => ?_) (fun h8 => ?_)
              · simp only [go_sem, h8]
                intro _
                first | refine branch_ndec (fun h9 => ?_) (fun h9 => ?_) | refine branch_dec (fun h9 => ?_) (fun h9 => ?_) | refine branch_nbool (fun h9 => ?_) (fun h9 => ?_) | refine branch_split (fun h9 => ?_) (fun h9 => ?_)
                · simp only [go_sem]
                  exact ⟨_, _, ⟨rfl, rfl⟩, fun hn => by have := hn.hd (by omega); have := hn.at' 0 (by omega); simp only [Nat.sub_zero] at this; omega⟩
                · simp only [go_sem]
                  exact ⟨_, _, ⟨rfl, rfl⟩, fun hn => ⟨hv hn, rfl⟩⟩
              · simp only [go_sem, h8]
                exact ⟨_, _, ⟨rfl, rfl⟩, fun hn => ⟨hv hn, rfl⟩⟩
end Go.VS
/- VS: the library's functions, by the contracts of the shelf. -/
set_option linter.unusedSimpArgs false
set_option linter.unusedVariables false
open Go.Proofs Go.RowKit
set_option maxRecDepth 20000
namespace Go.VS
theorem at120 : gz.P.funcs[120]? = some Tryz.f120 := by
  have h : Tryz.prog.funcs[120]? = some Tryz.f120 := by kernel_rfl
  exact h
theorem at121 : gz.P.funcs[121]? = some Tryz.f121 := by
  have h : Tryz.prog.funcs[121]? = some Tryz.f121 := by kernel_rfl
  exact h
def trimP (s p : ByteArray) : ByteArray := ⟨(Lib.trimPrefix s.data.toList p.data.toList).toArray⟩
theorem trimP_size (s p : ByteArray) : (trimP s p).size ≤ s.size := by
  have : (Lib.trimPrefix s.data.toList p.data.toList).length ≤ s.data.toList.length := by
    unfold Lib.trimPrefix
    split
    · simp only [List.length_drop]; omega
    · exact Nat.le_refl _
  show (Lib.trimPrefix s.data.toList p.data.toList).toArray.size ≤ s.data.size
  rw [List.size_toArray, ← Array.length_toList]
  exact this
theorem ok120 (s p : ByteArray) : VCalls gz 120 [.lit (.string s), .lit (.string p)] none (fun y _ => y = .lit (.string (trimP s p))) := by
  refine VCalls.of_bare (enterC at120 (by kernel_rfl) (by kernel_rfl)) rfl fun w S args hsz hg hS hrep => ?_
  obtain ⟨v0, v1, rfl⟩ : ∃ v0 v1, args = #[v0, v1] := by
    match args, hsz with
    | ⟨[v0, v1]⟩, _ => exact ⟨v0, v1, rfl⟩
  obtain ⟨rfl, h0⟩ := (hrep 0 v0 _ rfl rfl).lit
  obtain ⟨rfl, _⟩ := (hrep 1 v1 _ rfl rfl).lit
  refine (Tryz.strings_TrimPrefix s p w).mono ?_
  rintro e w' ⟨rfl, rfl⟩
  have h1 := trimP_size s p
  simp only [litOk] at h0
  exact ⟨⟨_, rfl, .str (s := trimP s p) (by omega)⟩, Below.refl _ _⟩
theorem parseI_rng {l : List UInt8} {v : Int} (h : Lib.parseIntB 64 l = .ok v) : -9223372036854775808 ≤ v ∧ v ≤ 9223372036854775807 := by
  unfold Lib.parseIntB at h
  split at h
  · cases h
  · simp only at h
    split at h
    · cases h
    · cases h
    · rename_i u hu
      split at h
      · cases h
      · split at h
        · cases h
        · rename_i h1 h2
          cases h
          split <;> omega
theorem intSat_rng (l : List UInt8) : -9223372036854775808 ≤ Lib.intSat 64 l ∧ Lib.intSat 64 l ≤ 9223372036854775807 := by
  unfold Lib.intSat
  split <;> exact ⟨by decide, by decide⟩
def parsedV (s : ByteArray) : AVal := match Lib.parseIntB 64 s.data.toList with
  | .ok v => .tup [.lit (.int .i64 v), .lit .nilIface]
  | .range => .tup [.lit (.int .i64 (Lib.intSat 64 s.data.toList)), .ifc]
  | _ => .tup [.lit (.int .i64 0), .ifc]
theorem ok121 (s : ByteArray) (hs : s.size ≤ 4294967280) : VCalls gz 121 [.lit (.string s), .lit (.int .i64 10), .lit (.int .i64 64)] none (fun y _ => y = parsedV s) := by
  have hn : noRef (parsedV s) = true := by unfold parsedV; split <;> rfl
  refine VCalls.of_bare (enterC at121 (by kernel_rfl) (by kernel_rfl)) hn fun w S args hsz hg hS hrep => ?_
  obtain ⟨v0, v1, v2, rfl⟩ : ∃ v0 v1 v2, args = #[v0, v1, v2] := by
    match args, hsz with
    | ⟨[v0, v1, v2]⟩, _ => exact ⟨v0, v1, v2, rfl⟩
  obtain ⟨rfl, h0⟩ := (hrep 0 v0 _ rfl rfl).lit
  obtain ⟨rfl, _⟩ := (hrep 1 v1 _ rfl rfl).lit
  obtain ⟨rfl, _⟩ := (hrep 2 v2 _ rfl rfl).lit
  cases hp : Lib.parseIntB 64 s.data.toList with
  | ok v =>
    refine (Tryz.strconv_ParseInt_ok s (by omega) v hp w).mono ?_
    rintro e w' ⟨rfl, h⟩
    refine ⟨⟨_, rfl, ?_⟩, ?_⟩
    · rw [parsedV, hp]
      exact .two (.int (rng_lit (parseI_rng hp))) .nilI (by simp) (by simp)
    · rcases h with rfl | ⟨t, rfl⟩
      · exact Below.refl _ _
      · exact Lib.bytesWorld_below _ _ _
  | range =>
    obtain ⟨ev, h1, h2⟩ := hg.2.2.2
    refine (Tryz.strconv_ParseInt_range s (by omega) hp ev w h1 h2).mono ?_
    rintro e w' ⟨t, N, rfl, hb⟩
    refine ⟨⟨_, rfl, ?_⟩, hb⟩
    rw [parsedV, hp]
    exact .two (.int (rng_lit (intSat_rng _))) .ifc (by simp) (by simp)
  | _ =>
    obtain ⟨ev, h1, h2⟩ := hg.2.2.1
    refine (Tryz.strconv_ParseInt_other s (by omega) (by rw [hp]; simp) (by rw [hp]; simp) ev w h1 h2).mono ?_
    rintro e w' ⟨t, N, rfl, hb⟩
    refine ⟨⟨_, rfl, ?_⟩, hb⟩
    rw [parsedV, hp]
    exact .two (.int (rng_lit ⟨by decide, by decide⟩)) .ifc (by simp) (by simp)
end Go.VS
set_option linter.unusedSimpArgs false
set_option linter.unusedVariables false
open Go.Proofs
set_option maxRecDepth 20000
namespace Go.VS
theorem f80_at : gz.P.funcs[80]? = some Tryz.f80 := by
  have h : Tryz.prog.funcs[80]? = some Tryz.f80 := by kernel_rfl
  exact h
theorem pU_app (M : Nat) (r : List UInt8) : ∀ (l : List UInt8) (acc : Nat), Lib.parseUintM M acc (l ++ r) = match Lib.parseUintM M acc l with | .ok u => Lib.parseUintM M u r | e => e
  | [], acc => rfl
  | c :: l, acc => by
    simp only [List.cons_append, Lib.parseUintM]
    split
    · split
      · rfl
      · split
        · rfl
        · exact pU_app M r l _
    · rfl
theorem pU_dec (u : Nat) : u < 10000000000 → Lib.parseUintM (2 ^ 64 - 1) 0 (Lib.decDigits u) = .ok u := by
  induction u using Nat.strongRecOn with
  | _ u ih =>
    intro h
    rw [Lib.decDigits]
    split
    · rename_i h1
      have e : (UInt8.ofNat (48 + u)).toNat = 48 + u := by rw [UInt8.toNat_ofNat']; omega
      simp only [Lib.parseUintM, e]
      rw [if_pos (by omega), if_neg (by omega), if_neg (by omega)]
      congr 1
      omega
    · rename_i h1
      rw [pU_app, ih (u / 10) (by omega) (by omega)]
      have e : (UInt8.ofNat (48 + u % 10)).toNat = 48 + u % 10 := by rw [UInt8.toNat_ofNat']; omega
      simp only [Lib.parseUintM, e]
      rw [if_pos (by omega), if_neg (by omega), if_neg (by omega)]
      congr 1
      omega
theorem decDigits_head (u : Nat) : ∃ c r, Lib.decDigits u = c :: r ∧ 48 ≤ c.toNat ∧ c.toNat ≤ 57 := by
  induction u using Nat.strongRecOn with
  | _ u ih =>
    rw [Lib.decDigits]
    split
    · rename_i h1
      exact ⟨_, _, rfl, by rw [UInt8.toNat_ofNat']; omega, by rw [UInt8.toNat_ofNat']; omega⟩
    · obtain ⟨c, r, h1, h2⟩ := ih (u / 10) (by omega)
      rw [h1]
      exact ⟨_, _, rfl, h2⟩
theorem itoaB_toList (k : Nat) : (itoaB k).data.toList = Lib.decDigits k := by
  show (Lib.itoa k).toArray.toList = _
  rw [Lib.itoa_nonneg, List.toList_toArray]
theorem parse_itoaB {k : Nat} (h : k < 10000000000) : parsedV (itoaB k) = .tup [.lit (.int .i64 k), .lit .nilIface] := by
  have h1 : Lib.parseIntB 64 (itoaB k).data.toList = .ok (k : Int) := by
    rw [itoaB_toList]
    obtain ⟨c, r, h1, h2, h3⟩ := decDigits_head k
    have h4 := pU_dec k h
    rw [h1] at h4 ⊢
    unfold Lib.parseIntB
    simp only
    rw [if_neg (by omega)]
    unfold Lib.parseUintB
    rw [if_neg (by simp), h4]
    simp only
    rw [if_neg (by omega), if_neg (by omega), if_neg (by omega)]
  unfold parsedV
  rw [h1]
theorem trim_itoaB (k : Nat) : trimP (itoaB k) ⟨#[45]⟩ = itoaB k := by
  apply bext
  show (Lib.trimPrefix (itoaB k).data.toList [45]).toArray.toList = _
  rw [List.toList_toArray, itoaB_toList]
  obtain ⟨c, r, h1, h2, h3⟩ := decDigits_head k
  rw [h1]
  unfold Lib.trimPrefix Lib.hasPrefix
  rw [if_neg]
  simp only [List.isPrefixOf, Bool.and_true, beq_iff_eq]
  rintro rfl
  revert h2
  decide
theorem parsedV_cases (s : ByteArray) : (∃ v : Int, parsedV s = .tup [.lit (.int .i64 v), .lit .nilIface]) ∨ ∃ v : Int, parsedV s = .tup [.lit (.int .i64 v), .ifc] := by
  unfold parsedV
  split
  · exact .inl ⟨_, rfl⟩
  · exact .inr ⟨_, rfl⟩
  · exact .inr ⟨_, rfl⟩
theorem ok80 (s : ByteArray) (hs : s.size ≤ 4000000) (k : Nat) (h1k : 0 ≤ k) (hk : k < 10000000000) : VCalls gz 80 [.lit (.string s)] none (fun y _ => ∃ n b, y = .tup [.lit (.int .i64 n), .lit (.bool b)] ∧ (s = itoaB k → n = k ∧ b = true)) := by
  refine VCalls.go (nt := 24) (keep := [0, 2, 3, 4, 5, 9]) (muts := []) (mvs := []) [] f80_at rfl (by kernel_rfl) rfl (by kernel_rfl) rfl (fun i h => by cases h) rfl ?_
  intro hok
  simp only [go_sem] at hok
  simp only [Tryz.f80, Func.code, Option.getD_some]
  simp only [go_sem]
  refine call_lend ?_
  simp only [go_sem]
  refine callN.eq (ok120 s ⟨#[45]⟩) (by simp only [go_sem]) ?_
  simp only [go_sem]
  intro _
  first | refine branch_ndec (fun h1 => ?_) (fun h1 => ?_) | refine branch_dec (fun h1 => ?_) (fun h1 => ?_) | refine branch_nbool (fun h1 => ?_) (fun h1 => ?_) | refine branch_split (fun h1 => ?_) (fun h1 => ?_)
  · simp only [go_sem]
    refine ⟨_, _, ⟨rfl, rfl⟩, fun hn => ?_⟩
    subst hn
    rw [trim_itoaB] at h1
    have := (itoaB_num h1k hk).sz
    omega
  · simp only [go_sem]
    have h220 := ok121 s (by omega)
    rcases parsedV_cases s with ⟨v, e⟩ | ⟨v, e⟩ <;> rw [e] at h220
    · refine call_lend ?_
      simp only [go_sem]
      refine callN.eq (h220) (by simp only [go_sem]) ?_
      simp only [go_sem]
      refine call_lend ?_
      simp only [go_sem]
      refine callN.eq (ok122 v) (by simp only [go_sem]) ?_
      simp only [go_sem]
      refine ⟨_, _, ⟨rfl, rfl⟩, fun hn => ?_⟩
      subst hn
      rw [parse_itoaB hk] at e
      cases e
      exact ⟨rfl, by simp⟩
    · refine call_lend ?_
      simp only [go_sem]
      refine callN.eq (h220) (by simp only [go_sem]) ?_
      simp only [go_sem]
      refine ⟨_, _, ⟨rfl, rfl⟩, fun hn => ?_⟩
      subst hn
      rw [parse_itoaB hk] at e
      cases e
end Go.VS
set_option linter.unusedSimpArgs false
set_option linter.unusedVariables false
open Go.Proofs
set_option maxRecDepth 20000
namespace Go.VS
def noSp (w : List UInt8) : Prop := ∀ b ∈ w, b ≠ 32
theorem occ_no {w r : List UInt8} (h : noSp w) {j : Nat} (hj : j < w.length) : Lib.occAt (w ++ r) [32] j = false := by
  cases ho : Lib.occAt (w ++ r) [32] j
  · rfl
  · have := Lib.occAt_head (c := 32) (t := []) rfl ho
    rw [List.getElem?_append_left hj, List.getElem?_eq_getElem hj] at this
    exact absurd (Option.some.inj this) (h _ (List.getElem_mem hj))
theorem index_sp {w r : List UInt8} (h : noSp w) : Lib.index (w ++ 32 :: r) [32] = w.length :=
  Lib.index_first (by simp) (by simp [Lib.occAt]) fun j hj => occ_no h hj
theorem count_nosp {w : List UInt8} (h : noSp w) : w.count 32 = 0 := List.count_eq_zero.2 fun hm => h _ hm rfl
theorem splitK_sp {w r : List UInt8} (h : noSp w) (k : Nat) : Lib.splitK [32] 0 (k + 1) (w ++ 32 :: r) = w :: Lib.splitK [32] 0 k r := by
  rw [Lib.splitK, index_sp h, if_neg (by simp)]
  simp
def four (a b c d : List UInt8) : List UInt8 := a ++ 32 :: (b ++ 32 :: (c ++ 32 :: d))
theorem split_four {a b c d : List UInt8} (ha : noSp a) (hb : noSp b) (hc : noSp c) (hd : noSp d) : Lib.split (four a b c d) [32] = [a, b, c, d] := by
  unfold Lib.split
  have hcount : Lib.count (four a b c d) [32] = 3 := by
    rw [Lib.count_one]
    simp [four, count_nosp ha, count_nosp hb, count_nosp hc, count_nosp hd]
  rw [hcount]
  unfold four
  rw [splitK_sp ha, splitK_sp hb, splitK_sp hc]
  rfl
theorem wordsN_run {s : ByteArray} {p w r : List UInt8} (hs : s.data.toList = p ++ w ++ r) (h : noSp w) {ws : List ByteArray} (h0 : wordsN s p.length = (ws, p.length)) : ∀ j, j ≤ w.length → p.length + j ≤ s.size → wordsN s (p.length + j) = (ws, p.length)
  | 0, _, _ => h0
  | j + 1, hj, hl => by
    have ih := wordsN_run hs h h0 j (by omega) (by omega)
    rw [← Nat.add_assoc, wordsN, ih, if_neg]
    rintro (h1 | h1)
    · omega
    · have hq : s.data.toList.getD (p.length + j) 0 = w[j]'(by omega) := by
        rw [hs, List.append_assoc, List.getD_eq_getElem?_getD, List.getElem?_append_right (by omega), Nat.add_sub_cancel_left, List.getElem?_append_left (by omega), List.getElem?_eq_getElem (by omega)]
        rfl
      rw [hq] at h1
      have h2 := h _ (List.getElem_mem (l := w) (by omega : j < w.length))
      apply h2
      apply UInt8.toNat_inj.1
      have : (32 : UInt8).toNat = 32 := rfl
      omega
theorem extract_mid {s : ByteArray} {p w r : List UInt8} (hs : s.data.toList = p ++ w ++ r) : s.extract p.length (p.length + w.length) = ⟨w.toArray⟩ := by
  apply bext
  show (s.extract p.length (p.length + w.length)).data.toList = w
  rw [ByteArray.data_extract, Array.toList_extract, hs]
  simp
theorem wordsN_word {s : ByteArray} {p w r : List UInt8} (hs : s.data.toList = p ++ w ++ 32 :: r) (h : noSp w) {ws : List ByteArray} (h0 : wordsN s p.length = (ws, p.length)) : wordsN s (p ++ w ++ [32]).length = (ws ++ [⟨w.toArray⟩], (p ++ w ++ [32]).length) := by
  have hsz : s.size = p.length + w.length + (r.length + 1) := by rw [bsz, hs]; simp; omega
  have h1 := wordsN_run hs h h0 w.length (Nat.le_refl _) (by omega)
  have hl : (p ++ w ++ [32]).length = p.length + w.length + 1 := by simp; omega
  rw [hl, wordsN, h1, if_pos, extract_mid hs]
  right
  have : s.data.toList.getD (p.length + w.length) 0 = 32 := by
    rw [hs, List.getD_eq_getElem?_getD, List.getElem?_append_right (by simp)]
    simp
  rw [this]
  rfl
theorem wordsB_four {s : ByteArray} {a b c d : List UInt8} (hs : s.data.toList = four a b c d) (ha : noSp a) (hb : noSp b) (hc : noSp c) (hd : noSp d) : wordsB s = [⟨a.toArray⟩, ⟨b.toArray⟩, ⟨c.toArray⟩, ⟨d.toArray⟩] := by
  have h1 := wordsN_word (p := []) (w := a) (r := b ++ 32 :: (c ++ 32 :: d)) (by rw [hs]; rfl) ha (ws := []) rfl
  have h2 := wordsN_word (p := [] ++ a ++ [32]) (w := b) (r := c ++ 32 :: d) (by rw [hs]; simp [four]) hb h1
  have h3 := wordsN_word (p := [] ++ a ++ [32] ++ b ++ [32]) (w := c) (r := d) (by rw [hs]; simp [four]) hc h2
  have hs4 : s.data.toList = ([] ++ a ++ [32] ++ b ++ [32] ++ c ++ [32]) ++ d ++ [] := by rw [hs]; simp [four]
  have hsz : s.size = ([] ++ a ++ [32] ++ b ++ [32] ++ c ++ [32]).length + d.length := by rw [bsz, hs4]; simp; omega
  have h4 := wordsN_run hs4 hd h3 d.length (Nat.le_refl _) (by omega)
  rw [← hsz] at h4
  unfold wordsB
  rw [wordsN, h4, if_pos (.inl rfl), hsz, extract_mid hs4]
  rfl
def pcs (s : ByteArray) : List ByteArray := Lib.splitB ⟨#[32]⟩ 0 (Lib.countB s ⟨#[32]⟩) s
theorem pcs_four {s : ByteArray} {a b c d : List UInt8} (hs : s.data.toList = four a b c d) (ha : noSp a) (hb : noSp b) (hc : noSp c) (hd : noSp d) : pcs s = [⟨a.toArray⟩, ⟨b.toArray⟩, ⟨c.toArray⟩, ⟨d.toArray⟩] := by
  have h1 : (pcs s).map (fun x => x.data.toList) = [a, b, c, d] := by
    have h2 := Lib.splitB_data ⟨#[32]⟩ 0 (Lib.countB s ⟨#[32]⟩) s
    have h3 := split_four ha hb hc hd
    unfold Lib.split at h3
    rw [← hs] at h3
    exact h2.trans h3
  have h4 : pcs s = ((pcs s).map (fun x => x.data.toList)).map (fun l => (⟨l.toArray⟩ : ByteArray)) := by
    rw [List.map_map]
    conv => lhs; rw [← List.map_id (pcs s)]
    exact List.map_congr_left fun x _ => by cases x; rfl
  rw [h4, h1]
  rfl
structure Mv where
  src : Int
  dst : Int
  sum : Int
  cnt : Int
  deriving DecidableEq
instance : Inhabited Mv := ⟨⟨0, 0, 0, 0⟩⟩
def Mv.enc (m : Mv) : AVal := .agg [.lit (.int .i64 m.src), .lit (.int .i64 m.dst), .lit (.int .i64 m.sum), .lit (.int .i64 m.cnt)]
theorem Mv.enc_eq {m : Mv} : Mv.enc m = .agg [.lit (.int .i64 m.src), .lit (.int .i64 m.dst), .lit (.int .i64 m.sum), .lit (.int .i64 m.cnt)] := nr rfl
attribute [go_sem] Mv.enc_eq
end Go.VS
set_option linter.unusedSimpArgs false
set_option linter.unusedVariables false
open Go.Proofs
set_option maxRecDepth 20000
namespace Go.VS
theorem decDigits_dig (u : Nat) : ∀ b ∈ Lib.decDigits u, 48 ≤ b.toNat ∧ b.toNat ≤ 57 := by
  induction u using Nat.strongRecOn with
  | _ u ih =>
    rw [Lib.decDigits]
    split
    · rename_i h1
      intro b hb
      rw [List.mem_singleton.1 hb, UInt8.toNat_ofNat']
      omega
    · rename_i h1
      intro b hb
      rcases List.mem_append.1 hb with hb | hb
      · exact ih (u / 10) (by omega) b hb
      · rw [List.mem_singleton.1 hb, UInt8.toNat_ofNat']
        omega
theorem dec_noSp (u : Nat) : noSp (Lib.decDigits u) := fun b hb h => by
  have := decDigits_dig u b hb
  rw [h] at this
  have h2 : (32 : UInt8).toNat = 32 := rfl
  omega
theorem itoaB_inj {k k' : Nat} (h : k < 10000000000) (h' : k' < 10000000000) (e : itoaB k = itoaB k') : k = k' := by
  have h1 := parse_itoaB h
  rw [e, parse_itoaB h'] at h1
  simp only [AVal.tup.injEq, List.cons.injEq, AVal.lit.injEq, Value.int.injEq, and_true, true_and] at h1
  omega
def Mv.ok (m : Mv) : Bool := decide (0 ≤ m.src ∧ m.src ≤ 7) && (decide (0 ≤ m.dst ∧ m.dst ≤ 7) && (decide (1 ≤ m.sum ∧ m.sum ≤ 1000000000) && decide (0 ≤ m.cnt ∧ m.cnt ≤ 999999)))
theorem Mv.ok_iff {m : Mv} : m.ok = true ↔ (0 ≤ m.src ∧ m.src ≤ 7) ∧ (0 ≤ m.dst ∧ m.dst ≤ 7) ∧ (1 ≤ m.sum ∧ m.sum ≤ 1000000000) ∧ (0 ≤ m.cnt ∧ m.cnt ≤ 999999) := by
  simp only [Mv.ok, Bool.and_eq_true, decide_eq_true_eq]
def Mv.shB (m : Mv) : ByteArray := itoaB m.src ++ ⟨#[32]⟩ ++ itoaB m.dst ++ ⟨#[32]⟩ ++ itoaB m.sum ++ ⟨#[32]⟩ ++ itoaB m.cnt
def Mv.sh (m : Mv) : ByteArray := if m.ok = true then m.shB else ⟨#[]⟩
def wdD (n : Int) : List UInt8 := Lib.decDigits n.toNat
theorem itoaB_nn {n : Int} (h : 0 ≤ n) : (itoaB n).data.toList = wdD n := by
  obtain ⟨k, rfl⟩ := Int.eq_ofNat_of_zero_le h
  exact itoaB_toList k
theorem itoaB_wd {n : Int} (h : 0 ≤ n) : (⟨(wdD n).toArray⟩ : ByteArray) = itoaB n := bext (by rw [itoaB_nn h])
theorem data_app (s t : ByteArray) : (s ++ t).data.toList = s.data.toList ++ t.data.toList := by simp
theorem Mv.sh_list {m : Mv} (h : m.ok = true) : m.sh.data.toList = four (wdD m.src) (wdD m.dst) (wdD m.sum) (wdD m.cnt) := by
  obtain ⟨h1, h2, h3, h4⟩ := Mv.ok_iff.1 h
  rw [Mv.sh, if_pos h, Mv.shB]
  simp only [data_app, itoaB_nn h1.1, itoaB_nn h2.1, itoaB_nn (show 0 ≤ m.sum by omega), itoaB_nn h4.1, four, List.append_assoc, List.cons_append, List.nil_append]
theorem Mv.sh_pcs {m : Mv} (h : m.ok = true) : pcs m.sh = [itoaB m.src, itoaB m.dst, itoaB m.sum, itoaB m.cnt] := by
  obtain ⟨h1, h2, h3, h4⟩ := Mv.ok_iff.1 h
  rw [pcs_four (Mv.sh_list h) (dec_noSp _) (dec_noSp _) (dec_noSp _) (dec_noSp _), itoaB_wd h1.1, itoaB_wd h2.1, itoaB_wd (show 0 ≤ m.sum by omega), itoaB_wd h4.1]
theorem Mv.sh_wds {m : Mv} (h : m.ok = true) : wordsB m.sh = [itoaB m.src, itoaB m.dst, itoaB m.sum, itoaB m.cnt] := by
  obtain ⟨h1, h2, h3, h4⟩ := Mv.ok_iff.1 h
  rw [wordsB_four (Mv.sh_list h) (dec_noSp _) (dec_noSp _) (dec_noSp _) (dec_noSp _), itoaB_wd h1.1, itoaB_wd h2.1, itoaB_wd (show 0 ≤ m.sum by omega), itoaB_wd h4.1]
def isNum (w : ByteArray) (n : Int) : Prop := ∀ k : Nat, k < 10000000000 → w = itoaB k → n = k
theorem isNum.eq {n x : Int} (h : isNum (itoaB x) n) (h0 : 0 ≤ x) (h1 : x < 10000000000) : n = x := by
  obtain ⟨k, rfl⟩ := Int.eq_ofNat_of_zero_le h0
  exact h k (by omega) rfl
def areN (ws : List ByteArray) (ns : List Int) : Prop := ∀ j, j < ns.length → isNum (ws.getD j default) (ns.getD j default)
theorem areN.nil {ws : List ByteArray} : areN ws [] := fun j hj => by simp at hj
theorem areN.app {ws : List ByteArray} {ns : List Int} (h : areN ws ns) {n : Int} (hn : isNum (ws.getD ns.length default) n) : areN ws (ns ++ [n]) := fun j hj => by
  by_cases hl : j < ns.length
  · have : (ns ++ [n]).getD j default = ns.getD j default := by simp [List.getD, List.getElem?_append_left hl]
    rw [this]
    exact h j hl
  · have e : j = ns.length := by simp at hj; omega
    subst e
    have : (ns ++ [n]).getD ns.length default = n := by simp [List.getD]
    rw [this]
    exact hn
theorem Mv.eq_of {m : Mv} (h : m.ok = true) {ns : List Int} (hn : areN [itoaB m.src, itoaB m.dst, itoaB m.sum, itoaB m.cnt] ns) (hl : ns.length = 4) : ns = [m.src, m.dst, m.sum, m.cnt] := by
  obtain ⟨h1, h2, h3, h4⟩ := Mv.ok_iff.1 h
  match ns, hl with
  | [a, b, c, d], _ =>
    have e1 : a = m.src := isNum.eq (hn 0 (by simp)) h1.1 (by omega)
    have e2 : b = m.dst := isNum.eq (hn 1 (by simp)) h2.1 (by omega)
    have e3 : c = m.sum := isNum.eq (hn 2 (by simp)) (by omega) (by omega)
    have e4 : d = m.cnt := isNum.eq (hn 3 (by simp)) h4.1 (by omega)
    rw [e1, e2, e3, e4]
theorem Mv.inj {m m' : Mv} (h : m.ok = true) (h' : m'.ok = true) (e : m.sh = m'.sh) : m = m' := by
  have h1 := Mv.sh_pcs h
  rw [e, Mv.sh_pcs h'] at h1
  obtain ⟨a1, a2, a3, a4⟩ := Mv.ok_iff.1 h
  obtain ⟨b1, b2, b3, b4⟩ := Mv.ok_iff.1 h'
  simp only [List.cons.injEq, and_true] at h1
  have key : ∀ x y : Int, 0 ≤ x → x < 10000000000 → 0 ≤ y → y < 10000000000 → itoaB x = itoaB y → x = y := fun x y hx hx2 hy hy2 e => by
    obtain ⟨k, rfl⟩ := Int.eq_ofNat_of_zero_le hx
    obtain ⟨k', rfl⟩ := Int.eq_ofNat_of_zero_le hy
    rw [itoaB_inj (by omega) (by omega) e]
  cases m
  cases m'
  simp only [Mv.mk.injEq] at *
  exact ⟨(key _ _ b1.1 (by omega) a1.1 (by omega) h1.1).symm, (key _ _ b2.1 (by omega) a2.1 (by omega) h1.2.1).symm, (key _ _ (by omega) (by omega) (by omega) (by omega) h1.2.2.1).symm, (key _ _ b4.1 (by omega) a4.1 (by omega) h1.2.2.2).symm⟩
theorem Mv.sh_ne {m : Mv} (h : m.ok = true) : m.sh ≠ ⟨#[]⟩ := fun e => by
  have h1 := Mv.sh_list h
  rw [e] at h1
  have := congrArg List.length h1
  simp [four] at this
open Classical in
noncomputable def rdM (s : ByteArray) : Option Mv := if h : ∃ m : Mv, m.ok = true ∧ m.sh = s then some h.choose else none
theorem rdM_yes {m : Mv} {s : ByteArray} (h : m.ok = true) (e : m.sh = s) : rdM s = some m := by
  have hx : ∃ m : Mv, m.ok = true ∧ m.sh = s := ⟨m, h, e⟩
  rw [rdM, dif_pos hx, Mv.inj hx.choose_spec.1 h (hx.choose_spec.2.trans e.symm)]
theorem rdM_no {s : ByteArray} (h : ∀ m : Mv, m.ok = true → m.sh ≠ s) : rdM s = none := dif_neg fun ⟨m, h1, h2⟩ => h m h1 h2
def rdA : Option Mv → AVal
  | some m => .tup [m.enc, .lit (.bool true)]
  | none => .tup [(⟨0, 0, 0, 0⟩ : Mv).enc, .lit (.bool false)]
theorem rdM_ok {s : ByteArray} {m : Mv} (h : rdM s = some m) : m.ok = true ∧ m.sh = s := by
  unfold rdM at h
  split at h
  · rename_i hx
    cases h
    exact hx.choose_spec
  · cases h
theorem rdM_end {s : ByteArray} {ws : List ByteArray} {ns : List Int} (hw : ∀ m : Mv, m.ok = true → m.sh = s → ws = [itoaB m.src, itoaB m.dst, itoaB m.sum, itoaB m.cnt]) (hn : areN ws ns) {a b c d : Int} (hl : ns = [a, b, c, d]) :
    ((⟨a, b, c, d⟩ : Mv).sh = s → s ≠ ⟨#[]⟩ → rdM s = some ⟨a, b, c, d⟩) ∧ ((⟨a, b, c, d⟩ : Mv).sh ≠ s → rdM s = none) := by
  subst hl
  constructor
  · intro h1 h2
    refine rdM_yes ?_ h1
    by_cases hk : (⟨a, b, c, d⟩ : Mv).ok = true
    · exact hk
    · exact absurd (by rw [← h1, Mv.sh, if_neg hk]) h2
  · intro h1
    refine rdM_no fun m hm e => h1 ?_
    have h2 := hw m hm e
    rw [h2] at hn
    have h3 := Mv.eq_of hm hn rfl
    simp only [List.cons.injEq, and_true] at h3
    obtain ⟨rfl, rfl, rfl, rfl⟩ := h3
    exact e
theorem rdM_len {s : ByteArray} {ws : List ByteArray} (hw : ∀ m : Mv, m.ok = true → m.sh = s → ws = [itoaB m.src, itoaB m.dst, itoaB m.sum, itoaB m.cnt]) (hl : ws.length ≠ 4) : rdM s = none := rdM_no fun m hm e => hl (by rw [hw m hm e]; rfl)
theorem rdM_nil : rdM ⟨#[]⟩ = none := rdM_no fun m hm e => Mv.sh_ne hm e
end Go.VS
set_option linter.unusedSimpArgs false
set_option linter.unusedVariables false
open Go.Proofs
set_option maxRecDepth 20000
namespace Go.VS
theorem modify_enc {α : Type} {f : α → AVal} {xs : List α} {i : Nat} {v : α} {y : AVal} (h : y = f v) : (xs.map f).modify i (putF [] y) = (xs.set i v).map f := by
  subst h
  exact modify_map
theorem ext_getD {α : Type} [Inhabited α] {xs ys : List α} (h : xs.length = ys.length) (he : ∀ j, j < xs.length → xs.getD j default = ys.getD j default) : xs = ys := by
  apply List.ext_getElem h
  intro j h1 h2
  have := he j h1
  simpa [List.getD, h1, h2] using this
end Go.VS
set_option linter.unusedSimpArgs false
set_option linter.unusedVariables false
open Go.Proofs
set_option maxRecDepth 20000
namespace Go.VS
def intA (n : Int) : AVal := .lit (.int .i64 n)
structure Vot where
  view : Int
  name : Int
  bY : Int
  tag : Int
  deriving DecidableEq
instance : Inhabited Vot := ⟨⟨0, 0, 0, 0⟩⟩
def Vot.enc (v : Vot) : AVal := .agg [.lit (.int .i64 v.view), .lit (.int .i64 v.name), .lit (.int .i64 v.bY), .lit (.int .i64 v.tag)]
structure Prf where
  view : Int
  name : Int
  bys : List Int
  tags : List Int
  deriving DecidableEq
instance : Inhabited Prf := ⟨⟨0, 0, [], []⟩⟩
def Prf.enc (own : Bool) (p : Prf) : AVal := .agg [.lit (.int .i64 p.view), .lit (.int .i64 p.name), .lst own 1 (p.bys.map intA), .lst own 1 (p.tags.map intA)]
structure Blk where
  view : Int
  parent : Int
  proof : Prf
  moves : List ByteArray
  bY : Int
instance : DecidableEq Blk := fun a b => by
  cases a; cases b; simp only [Blk.mk.injEq]; infer_instance
instance : Inhabited Blk := ⟨⟨0, 0, default, [], 0⟩⟩
def Blk.enc (own : Bool) (b : Blk) : AVal := .agg [.lit (.int .i64 b.view), .lit (.int .i64 b.parent), b.proof.enc own, .lst own 1 (b.moves.map strA), .lit (.int .i64 b.bY)]
structure Nws where
  view : Int
  src : Int
  deriving DecidableEq
instance : Inhabited Nws := ⟨⟨0, 0⟩⟩
def Nws.enc (v : Nws) : AVal := .agg [.lit (.int .i64 v.view), .lit (.int .i64 v.src)]
structure Rpl where
  id : Int
  n : Int
  view : Int
  voted : Int
  locked : Int
  proposed : Int
  high : Prf
  blocks : List Blk
  votes : List Vot
  news : List Nws
  done : List Int
instance : DecidableEq Rpl := fun a b => by
  cases a; cases b; simp only [Rpl.mk.injEq]; infer_instance
def Rpl.enc (own : Bool) (r : Rpl) : AVal := .agg [.lit (.int .i64 r.id), .lit (.int .i64 r.n), .lit (.int .i64 r.view), .lit (.int .i64 r.voted), .lit (.int .i64 r.locked), .lit (.int .i64 r.proposed), r.high.enc own, .lst own 8 (r.blocks.map (Blk.enc own)), .lst own 4 (r.votes.map Vot.enc), .lst own 2 (r.news.map Nws.enc), .lst own 1 (r.done.map intA)]
theorem intA_eq {s : Int} : intA s = .lit (.int .i64 s) := nr rfl
theorem Vot.enc_eq {v : Vot} : Vot.enc v = .agg [.lit (.int .i64 v.view), .lit (.int .i64 v.name), .lit (.int .i64 v.bY), .lit (.int .i64 v.tag)] := nr rfl
theorem Prf.enc_eq {own : Bool} {p : Prf} : Prf.enc own p = .agg [.lit (.int .i64 p.view), .lit (.int .i64 p.name), .lst own 1 (p.bys.map intA), .lst own 1 (p.tags.map intA)] := nr rfl
theorem Blk.enc_eq {own : Bool} {b : Blk} : Blk.enc own b = .agg [.lit (.int .i64 b.view), .lit (.int .i64 b.parent), b.proof.enc own, .lst own 1 (b.moves.map strA), .lit (.int .i64 b.bY)] := nr rfl
theorem Nws.enc_eq {v : Nws} : Nws.enc v = .agg [.lit (.int .i64 v.view), .lit (.int .i64 v.src)] := nr rfl
theorem Rpl.enc_eq {own : Bool} {r : Rpl} : Rpl.enc own r = .agg [.lit (.int .i64 r.id), .lit (.int .i64 r.n), .lit (.int .i64 r.view), .lit (.int .i64 r.voted), .lit (.int .i64 r.locked), .lit (.int .i64 r.proposed), r.high.enc own, .lst own 8 (r.blocks.map (Blk.enc own)), .lst own 4 (r.votes.map Vot.enc), .lst own 2 (r.news.map Nws.enc), .lst own 1 (r.done.map intA)] := nr rfl
attribute [go_sem] intA_eq Vot.enc_eq Prf.enc_eq Blk.enc_eq Nws.enc_eq Rpl.enc_eq
end Go.VS
