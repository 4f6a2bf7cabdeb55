/- VS: the library's functions, by the contracts of the shelf. -/
import Derived.Test.YtgoohbakklimcaaDoorVf
import Derived.Test.YtgoohbakklimcaaDoorVn
import Derived.Lib.ItoaLen
import Derived.Test.YtgoohbakklimcaaDoorShelf
import Derived.Lib.AtoiErrMem
set_option linter.unusedSimpArgs false
set_option linter.unusedVariables false
open Go.Proofs Go.RowKit
set_option maxRecDepth 20000
namespace Go.VS
theorem at70 : gz.P.funcs[70]? = some Tryd.f70 := by
  have h : Tryd.prog.funcs[70]? = some Tryd.f70 := by kernel_rfl
  exact h
/-- a number, written out -/
def itoaB (n : Int) : ByteArray := ⟨(Lib.itoa n).toArray⟩
theorem itoaB_size (n : Int) (h : -9223372036854775808 ≤ n ∧ n ≤ 9223372036854775807) : (itoaB n).size ≤ 21 := by
  have := Lib.itoa_length_le n h.1 h.2
  simpa [itoaB, ByteArray.size] using this
theorem lit_rng {n : Int} (h : litOk (.int .i64 n)) : -9223372036854775808 ≤ n ∧ n ≤ 9223372036854775807 := by
  simpa [litOk, IntKind.min, IntKind.max, IntKind.bits, IntKind.signed] using h
theorem rng_lit {n : Int} (h : -9223372036854775808 ≤ n ∧ n ≤ 9223372036854775807) : IntKind.i64.min ≤ n ∧ n ≤ IntKind.i64.max := by
  simpa [IntKind.min, IntKind.max, IntKind.bits, IntKind.signed] using h
theorem ok70 (n : Int) : VCalls gz 70 [.lit (.int .i64 n), .lit (.int .i64 10)] none (fun y _ => y = .lit (.string (itoaB n))) := by
  refine VCalls.of_bare (enterC at70 (by kernel_rfl) (by kernel_rfl)) rfl fun w S args hsz hg hS hrep => ?_
  obtain ⟨v0, v1, rfl⟩ : ∃ v0 v1, args = #[v0, v1] := by
    match args, hsz with
    | ⟨[v0, v1]⟩, _ => exact ⟨v0, v1, rfl⟩
  obtain ⟨rfl, h0⟩ := (hrep 0 v0 _ rfl rfl).lit
  obtain ⟨rfl, _⟩ := (hrep 1 v1 _ rfl rfl).lit
  have hr := lit_rng h0
  refine (Tryd.internal_strconv_FormatInt_10 n hr.1 hr.2 w (GlTab hg)).mono ?_
  rintro e w' ⟨rfl, k, os, rfl⟩
  exact ⟨⟨_, rfl, .str (by have := itoaB_size n hr; simp only [maxLen]; unfold itoaB at this; omega)⟩, below_growN _ _ _⟩
end Go.VS

/- VS: the library's functions, by the contracts of the shelf. -/

set_option linter.unusedSimpArgs false
set_option linter.unusedVariables false
open Go.Proofs Go.RowKit
set_option maxRecDepth 20000
namespace Go.VS
theorem at64 : gz.P.funcs[64]? = some Tryd.f64 := by
  have h : Tryd.prog.funcs[64]? = some Tryd.f64 := by kernel_rfl
  exact h
theorem at65 : gz.P.funcs[65]? = some Tryd.f65 := by
  have h : Tryd.prog.funcs[65]? = some Tryd.f65 := by kernel_rfl
  exact h
/-- what stands ahead of the first sep, and what behind -/
def cut1 (s sep : ByteArray) : ByteArray := ⟨(Lib.cut s.data.toList sep.data.toList).1.toArray⟩
def cut2 (s sep : ByteArray) : ByteArray := ⟨(Lib.cut s.data.toList sep.data.toList).2.1.toArray⟩
def cut3 (s sep : ByteArray) : Bool := (Lib.cut s.data.toList sep.data.toList).2.2
theorem cut1_size (s sep : ByteArray) : (cut1 s sep).size ≤ s.size := by
  have : (Lib.cut s.data.toList sep.data.toList).1.length ≤ s.data.toList.length := by
    unfold Lib.cut
    split
    · simp only [List.length_take]; omega
    · exact Nat.le_refl _
  show (Lib.cut s.data.toList sep.data.toList).1.toArray.size ≤ s.data.size
  rw [List.size_toArray, ← Array.length_toList]
  exact this
theorem cut2_size (s sep : ByteArray) : (cut2 s sep).size ≤ s.size := by
  have : (Lib.cut s.data.toList sep.data.toList).2.1.length ≤ s.data.toList.length := by
    unfold Lib.cut
    split
    · simp only [List.length_drop]; omega
    · simp
  show (Lib.cut s.data.toList sep.data.toList).2.1.toArray.size ≤ s.data.size
  rw [List.size_toArray, ← Array.length_toList]
  exact this
def trimP (s p : ByteArray) : ByteArray := ⟨(Lib.trimPrefix s.data.toList p.data.toList).toArray⟩
theorem trimP_size (s p : ByteArray) : (trimP s p).size ≤ s.size := by
  have : (Lib.trimPrefix s.data.toList p.data.toList).length ≤ s.data.toList.length := by
    unfold Lib.trimPrefix
    split
    · simp only [List.length_drop]; omega
    · exact Nat.le_refl _
  show (Lib.trimPrefix s.data.toList p.data.toList).toArray.size ≤ s.data.size
  rw [List.size_toArray, ← Array.length_toList]
  exact this
theorem ok64 (s p : ByteArray) : VCalls gz 64 [.lit (.string s), .lit (.string p)] none (fun y _ => y = .lit (.string (trimP s p))) := by
  refine VCalls.of_bare (enterC at64 (by kernel_rfl) (by kernel_rfl)) rfl fun w S args hsz hg hS hrep => ?_
  obtain ⟨v0, v1, rfl⟩ : ∃ v0 v1, args = #[v0, v1] := by
    match args, hsz with
    | ⟨[v0, v1]⟩, _ => exact ⟨v0, v1, rfl⟩
  obtain ⟨rfl, h0⟩ := (hrep 0 v0 _ rfl rfl).lit
  obtain ⟨rfl, _⟩ := (hrep 1 v1 _ rfl rfl).lit
  refine (Tryd.strings_TrimPrefix s p w).mono ?_
  rintro e w' ⟨rfl, rfl⟩
  have h1 := trimP_size s p
  simp only [litOk] at h0
  exact ⟨⟨_, rfl, .str (s := trimP s p) (by omega)⟩, Below.refl _ _⟩
theorem parseU_lt : ∀ (l : List UInt8) (acc u : Nat), acc < 2 ^ 64 → Lib.parseUintM (2 ^ 64 - 1) acc l = .ok u → u < 2 ^ 64
  | [], acc, u, h0, h => by simp only [Lib.parseUintM] at h; cases h; exact h0
  | c :: r, acc, u, h0, h => by
    simp only [Lib.parseUintM] at h
    split at h
    · split at h
      · cases h
      · split at h
        · cases h
        · exact parseU_lt r _ u (by omega) h
    · cases h
theorem parseI_rng {l : List UInt8} {v : Int} (h : Lib.parseIntB 64 l = .ok v) : -9223372036854775808 ≤ v ∧ v ≤ 9223372036854775807 := by
  unfold Lib.parseIntB at h
  split at h
  · cases h
  · simp only at h
    split at h
    · cases h
    · cases h
    · rename_i u hu
      split at h
      · cases h
      · split at h
        · cases h
        · rename_i h1 h2
          cases h
          split <;> omega
theorem intSat_rng (l : List UInt8) : -9223372036854775808 ≤ Lib.intSat 64 l ∧ Lib.intSat 64 l ≤ 9223372036854775807 := by
  unfold Lib.intSat
  split <;> exact ⟨by decide, by decide⟩
/-- what ParseInt answers: a number, and whether there is no error -/
def parsedV (s : ByteArray) : AVal := match Lib.parseIntB 64 s.data.toList with
  | .ok v => .tup [.lit (.int .i64 v), .lit .nilIface]
  | .range => .tup [.lit (.int .i64 (Lib.intSat 64 s.data.toList)), .ifc]
  | _ => .tup [.lit (.int .i64 0), .ifc]
theorem ok65 (s : ByteArray) (hs : s.size ≤ 4294967280) : VCalls gz 65 [.lit (.string s), .lit (.int .i64 10), .lit (.int .i64 64)] none (fun y _ => y = parsedV s) := by
  have hn : noRef (parsedV s) = true := by unfold parsedV; split <;> rfl
  refine VCalls.of_bare (enterC at65 (by kernel_rfl) (by kernel_rfl)) hn fun w S args hsz hg hS hrep => ?_
  obtain ⟨v0, v1, v2, rfl⟩ : ∃ v0 v1 v2, args = #[v0, v1, v2] := by
    match args, hsz with
    | ⟨[v0, v1, v2]⟩, _ => exact ⟨v0, v1, v2, rfl⟩
  obtain ⟨rfl, h0⟩ := (hrep 0 v0 _ rfl rfl).lit
  obtain ⟨rfl, _⟩ := (hrep 1 v1 _ rfl rfl).lit
  obtain ⟨rfl, _⟩ := (hrep 2 v2 _ rfl rfl).lit
  cases hp : Lib.parseIntB 64 s.data.toList with
  | ok v =>
    refine (Tryd.strconv_ParseInt_ok s (by omega) v hp w).mono ?_
    rintro e w' ⟨rfl, h⟩
    refine ⟨⟨_, rfl, ?_⟩, ?_⟩
    · rw [parsedV, hp]
      exact .two (.int (rng_lit (parseI_rng hp))) .nilI (by simp) (by simp)
    · rcases h with rfl | ⟨t, rfl⟩
      · exact Below.refl _ _
      · exact Lib.bytesWorld_below _ _ _
  | range =>
    obtain ⟨ev, h1, h2⟩ := hg.2.2.2
    refine (Tryd.strconv_ParseInt_range s (by omega) hp ev w h1 h2).mono ?_
    rintro e w' ⟨t, N, rfl, hb⟩
    refine ⟨⟨_, rfl, ?_⟩, hb⟩
    rw [parsedV, hp]
    exact .two (.int (rng_lit (intSat_rng _))) .ifc (by simp) (by simp)
  | _ =>
    obtain ⟨ev, h1, h2⟩ := hg.2.2.1
    refine (Tryd.strconv_ParseInt_other s (by omega) (by rw [hp]; simp) (by rw [hp]; simp) ev w h1 h2).mono ?_
    rintro e w' ⟨t, N, rfl, hb⟩
    refine ⟨⟨_, rfl, ?_⟩, hb⟩
    rw [parsedV, hp]
    exact .two (.int (rng_lit ⟨by decide, by decide⟩)) .ifc (by simp) (by simp)
end Go.VS

set_option linter.unusedSimpArgs false
set_option linter.unusedVariables false
open Go.Proofs
set_option maxRecDepth 20000
namespace Go.VS
theorem f62_at : gz.P.funcs[62]? = some Tryd.f62 := by
  have h : Tryd.prog.funcs[62]? = some Tryd.f62 := by kernel_rfl
  exact h
theorem f41_at : gz.P.funcs[41]? = some Tryd.f41 := by
  have h : Tryd.prog.funcs[41]? = some Tryd.f41 := by kernel_rfl
  exact h
theorem f51_at : gz.P.funcs[51]? = some Tryd.f51 := by
  have h : Tryd.prog.funcs[51]? = some Tryd.f51 := by kernel_rfl
  exact h
theorem bsz (s : ByteArray) : s.size = s.data.toList.length := by rw [Array.length_toList]; rfl
theorem bext {s t : ByteArray} (h : s.data.toList = t.data.toList) : s = t := by
  cases s; cases t; simp only [ByteArray.mk.injEq]; exact Array.toList_inj.1 h
theorem ok62 (n : Int) : VCalls gz 62 [.lit (.int .i64 n), .lit (.int .i64 10)] none (fun y _ => y = .lit (.string (itoaB n))) := by
  refine VCalls.go (nt := 8) (keep := [0, 1, 4]) (muts := []) (mvs := []) [] f62_at rfl (by kernel_rfl) rfl (by kernel_rfl) rfl (fun i h => by cases h) rfl ?_
  intro hok
  simp only [go_sem] at hok
  simp only [Tryd.f62, Func.code, Option.getD_some]
  simp only [go_sem]
  refine call_lend ?_
  simp only [go_sem]
  refine callN.eq (ok70 n) (by simp only [go_sem]) ?_
  simp only [go_sem]
theorem ok41 (n : Int) : VCalls gz 41 [.lit (.int .i64 n)] none (fun y _ => y = .lit (.string (itoaB n))) := by
  refine VCalls.go (nt := 5) (keep := [0, 2]) (muts := []) (mvs := []) [] f41_at rfl (by kernel_rfl) rfl (by kernel_rfl) rfl (fun i h => by cases h) rfl ?_
  intro hok
  simp only [go_sem] at hok
  simp only [Tryd.f41, Func.code, Option.getD_some]
  simp only [go_sem]
  refine call_lend ?_
  simp only [go_sem]
  refine callN.eq (ok62 n) (by simp only [go_sem]) ?_
  simp only [go_sem]
/-- the number of a text, up to a place -/
def digN (s : ByteArray) : Nat → Int
  | 0 => 1
  | n + 1 => (digN s n * 1000003 + ((s.data.toList.getD n 0).toNat : Int) + 1).tmod 2147483647
theorem digN_rng (s : ByteArray) : ∀ n, 0 ≤ digN s n ∧ digN s n < 2147483647
  | 0 => by simp [digN]
  | n + 1 => by
    have h := digN_rng s n
    have h2 : 0 ≤ digN s n * 1000003 + ((s.data.toList.getD n 0).toNat : Int) + 1 := by omega
    unfold digN
    rw [Int.tmod_eq_emod_of_nonneg h2]
    omega
def dig (s : ByteArray) : Int := digN s s.size
theorem u8_lt (c : UInt8) : c.toNat < 256 := c.toNat_lt
end Go.VS

set_option linter.unusedSimpArgs false
set_option linter.unusedVariables false
open Go.Proofs
set_option maxRecDepth 20000
namespace Go.VS
/-- where writing out a number stands: what is left of it, and its last digits -/
def WInv (n m : Int) (s : ByteArray) : Prop := (0 ≤ n → 0 ≤ m) ∧ (n < 0 → m ≤ 0) ∧ m.natAbs ≤ n.natAbs ∧ ((s = ByteArray.empty ∧ m = n) ∨ (s.size ≠ 0 ∧ Lib.decDigits n.natAbs = (if m = 0 then [] else Lib.decDigits m.natAbs) ++ s.data.toList))
theorem decDigits_step (u : Nat) : Lib.decDigits u = (if u / 10 = 0 then [] else Lib.decDigits (u / 10)) ++ [UInt8.ofNat (48 + u % 10)] := by
  rw [Lib.decDigits]
  split
  · rw [if_pos (by omega), Nat.mod_eq_of_lt (by omega)]; rfl
  · rw [if_neg (by omega)]
theorem WInv.step {n m : Int} {s t : ByteArray} (h : WInv n m s) (hm : s = ByteArray.empty ∨ m ≠ 0) (d : UInt8) (hd : d = UInt8.ofNat (48 + m.natAbs % 10)) (ht : t.data.toList = d :: s.data.toList) : WInv n (m.tdiv 10) t := by
  obtain ⟨h1, h2, h3, h4⟩ := h
  have e1 : (m.tdiv 10).natAbs = m.natAbs / 10 := by rw [Int.natAbs_tdiv]; rfl
  refine ⟨fun h => ?_, fun h => ?_, by omega, .inr ⟨?_, ?_⟩⟩
  · exact Int.tdiv_nonneg (h1 h) (by omega)
  · have := h2 h
    have h5 : 0 ≤ (-m).tdiv 10 := Int.tdiv_nonneg (by omega) (by omega)
    rw [Int.neg_tdiv] at h5
    omega
  · have : t.data.toList.length ≠ 0 := by rw [ht]; simp
    rw [bsz]; exact this
  · have e2 : (m.tdiv 10 = 0) ↔ m.natAbs / 10 = 0 := by omega
    have key : Lib.decDigits n.natAbs = Lib.decDigits m.natAbs ++ s.data.toList := by
      rcases h4 with ⟨rfl, rfl⟩ | ⟨h5, h6⟩
      · simp
      · rcases hm with rfl | hm
        · exact absurd rfl h5
        · rw [if_neg hm] at h6; exact h6
    rw [key, decDigits_step, e1, ht, hd, ite_congr (propext e2) (fun _ => rfl) (fun _ => rfl)]
    simp
theorem WInv.size {n m : Int} {s : ByteArray} (h : WInv n m s) (hn : -9223372036854775808 ≤ n ∧ n ≤ 9223372036854775807) : s.size ≤ 20 := by
  obtain ⟨h1, h2, h3, h4⟩ := h
  rcases h4 with ⟨rfl, rfl⟩ | ⟨_, h6⟩
  · simp
  · have h7 := congrArg List.length h6
    rw [Lib.decDigits_length, List.length_append] at h7
    have := Lib.nDigits_le20 n.natAbs (by omega)
    have := bsz s
    omega
theorem WInv.done {n : Int} {s : ByteArray} (h : WInv n 0 s) (hs : s ≠ ByteArray.empty) : Lib.decDigits n.natAbs = s.data.toList := by
  obtain ⟨h1, h2, h3, h4⟩ := h
  rcases h4 with ⟨rfl, rfl⟩ | ⟨_, h6⟩
  · exact absurd rfl hs
  · simpa using h6
theorem strOfA_one {n : Int} : strOfA [.lit (.int .u8 n)] = some [UInt8.ofNat n.toNat] := nr rfl
attribute [go_sem] strOfA_one
theorem digit_byte {m k : Int} (hk : k = if m.tmod 10 < 0 then IntKind.i64.wrap (0 - m.tmod 10) else m.tmod 10) : UInt8.ofNat (IntKind.u8.wrap (IntKind.i64.wrap (48 + k))).toNat = UInt8.ofNat (48 + m.natAbs % 10) := by
  have h1 : k = ((m.natAbs % 10 : Nat) : Int) := by
    have h2 : (m.tmod 10).natAbs = m.natAbs % 10 := by rw [Int.natAbs_tmod]; rfl
    rw [hk]
    split
    · rw [wrap64 (by omega) (by omega)]; omega
    · omega
  rw [h1]
  simp (disch := omega) only [wrap64, wrapU64, wrapU32, wrapU8]
  congr 1
theorem str_cons (b : UInt8) (s : ByteArray) : ((⟨[b].toArray⟩ : ByteArray) ++ s).data.toList = b :: s.data.toList := by
  rw [ByteArray.data_append, Array.toList_append]; rfl
theorem ok51 (n : Int) : VCalls gz 51 [.lit (.int .i64 n)] none (fun y _ => y = .lit (.string (itoaB n))) := by
  refine VCalls.go (nt := 33) (keep := [0, 2, 3, 4, 5, 13, 17, 29]) (muts := []) (mvs := []) [] f51_at rfl (by kernel_rfl) rfl (by kernel_rfl) rfl (fun i h => by cases h) rfl ?_
  intro hok
  simp only [go_sem] at hok
  simp only [Tryd.f51, Func.code, Option.getD_some]
  simp only [go_sem]
  refine vm_loopK (α := Int × ByteArray) (fun q => [(0, .lit (.int .i64 q.1)), (3, .lit (.string q.2)), (4, .lit (.bool (decide (n < 0))))]) (fun q => WInv n q.1 q.2) (fun q => if q.2 = ByteArray.empty then n.natAbs + 1 else q.1.natAbs) (n, ByteArray.empty) ?_ ⟨fun h => h, fun h => by omega, Nat.le_refl _, .inl ⟨rfl, rfl⟩⟩ (by kernel_rfl) (fun _ => rfl) ?_
  · simp only [go_sem]
    trivial
  · rintro ⟨m, s⟩ hi hk
    simp only at hi
    simp only [go_sem]
    have hs := WInv.size hi hok
    have hm1 := hi.2.2.1
    have ht : (m.tdiv 10).natAbs = m.natAbs / 10 := by rw [Int.natAbs_tdiv]; rfl
    have hz : (⟨[UInt8.ofNat (48 + m.natAbs % 10)].toArray⟩ : ByteArray).size = 1 := rfl
    have hcm : s = ByteArray.empty ∨ m ≠ 0 → WInv n (m.tdiv 10) ((⟨[UInt8.ofNat (48 + m.natAbs % 10)].toArray⟩ : ByteArray) ++ s) := fun h => hi.step h _ rfl (str_cons _ _)
    have hne : ((⟨[UInt8.ofNat (48 + m.natAbs % 10)].toArray⟩ : ByteArray) ++ s) ≠ ByteArray.empty := fun h => by
      have := congrArg ByteArray.size h
      rw [ByteArray.size_append, hz] at this
      simp at this
    have hdone : ¬ s = ByteArray.empty → m = 0 → (if decide (n < 0) = true then ⟨[45].toArray⟩ ++ s else s) = itoaB n := fun h1 h2 => by
      subst h2
      have := hi.done h1
      apply bext
      unfold itoaB Lib.itoa
      by_cases hn : n < 0
      · simp only [hn, decide_true, if_true]
        rw [str_cons]
        simp only [this]
      · simp only [hn, decide_false, if_false]
        have e : n.toNat = n.natAbs := by omega
        simp only [e, this]
        rfl
    first | refine gj_ndec (fun h => ?_) (fun h => ?_) | refine gj_dec (fun h => ?_) (fun h => ?_) | refine gj_nbool (fun h => ?_) (fun h => ?_) | refine gj_bool (fun h => ?_) (fun h => ?_)
    · simp only [go_sem, eq_true h]
      have hmu : (if (⟨[UInt8.ofNat (48 + m.natAbs % 10)].toArray⟩ : ByteArray) ++ s = ByteArray.empty then n.natAbs + 1 else (m.tdiv 10).natAbs) < (if s = ByteArray.empty then n.natAbs + 1 else m.natAbs) := by
        rw [if_neg hne, if_pos (show s = ByteArray.empty from h)]
        have := hi.2.2.1
        omega
      first | refine branch_ndec (fun h1 => ?_) (fun h1 => ?_) | refine branch_dec (fun h1 => ?_) (fun h1 => ?_) | refine branch_nbool (fun h1 => ?_) (fun h1 => ?_) | refine branch_split (fun h1 => ?_) (fun h1 => ?_)
      · simp only [go_sem]
        have hb := digit_byte (m := m) (k := IntKind.i64.wrap (0 - m.tmod 10)) (by simp only [h1, if_true, if_false])
        have hw : IntKind.i64.wrap (m.tdiv 10) = m.tdiv 10 := wrap64 (by omega) (by omega)
        rw [hw, hb]
        have h0 := hcm (.inl h)
        refine ⟨by have : s.size ≤ 20 := hs
                   show 1 + s.size ≤ 9223372036854775807
                   omega, again_intro (m.tdiv 10, (⟨[UInt8.ofNat (48 + m.natAbs % 10)].toArray⟩ : ByteArray) ++ s) h0 hmu ?_⟩
        simp only [go_sem]
      · simp only [go_sem]
        have hb := digit_byte (m := m) (k := m.tmod 10) (by simp only [h1, if_true, if_false])
        have hw : IntKind.i64.wrap (m.tdiv 10) = m.tdiv 10 := wrap64 (by omega) (by omega)
        rw [hw, hb]
        have h0 := hcm (.inl h)
        refine ⟨by have : s.size ≤ 20 := hs
                   show 1 + s.size ≤ 9223372036854775807
                   omega, again_intro (m.tdiv 10, (⟨[UInt8.ofNat (48 + m.natAbs % 10)].toArray⟩ : ByteArray) ++ s) h0 hmu ?_⟩
        simp only [go_sem]
    · simp only [go_sem, h]
      first | refine branch_ndec (fun h2 => ?_) (fun h2 => ?_) | refine branch_dec (fun h2 => ?_) (fun h2 => ?_) | refine branch_nbool (fun h2 => ?_) (fun h2 => ?_) | refine branch_split (fun h2 => ?_) (fun h2 => ?_)
      · simp only [go_sem]
        have hf := hdone h h2
        first | refine branch_ndec (fun h3 => ?_) (fun h3 => ?_) | refine branch_dec (fun h3 => ?_) (fun h3 => ?_) | refine branch_nbool (fun h3 => ?_) (fun h3 => ?_) | refine branch_split (fun h3 => ?_) (fun h3 => ?_)
        · simp only [go_sem]
          rw [if_pos (by simpa using h3)] at hf
          exact ⟨by show 1 + s.size ≤ 9223372036854775807
                    omega, hf⟩
        · simp only [go_sem]
          rw [if_neg (by simpa using h3)] at hf
          exact hf
      · have hmu : (if (⟨[UInt8.ofNat (48 + m.natAbs % 10)].toArray⟩ : ByteArray) ++ s = ByteArray.empty then n.natAbs + 1 else (m.tdiv 10).natAbs) < (if s = ByteArray.empty then n.natAbs + 1 else m.natAbs) := by
          rw [if_neg hne, if_neg (show ¬ s = ByteArray.empty from h)]
          omega
        simp only [go_sem]
        first | refine branch_ndec (fun h1 => ?_) (fun h1 => ?_) | refine branch_dec (fun h1 => ?_) (fun h1 => ?_) | refine branch_nbool (fun h1 => ?_) (fun h1 => ?_) | refine branch_split (fun h1 => ?_) (fun h1 => ?_)
        · simp only [go_sem]
          have hb := digit_byte (m := m) (k := IntKind.i64.wrap (0 - m.tmod 10)) (by simp only [h1, if_true, if_false])
          have hw : IntKind.i64.wrap (m.tdiv 10) = m.tdiv 10 := wrap64 (by omega) (by omega)
          rw [hw, hb]
          have h0 := hcm (.inr h2)
          refine ⟨by have : s.size ≤ 20 := hs
                     show 1 + s.size ≤ 9223372036854775807
                     omega, again_intro (m.tdiv 10, (⟨[UInt8.ofNat (48 + m.natAbs % 10)].toArray⟩ : ByteArray) ++ s) h0 hmu ?_⟩
          simp only [go_sem]
        · simp only [go_sem]
          have hb := digit_byte (m := m) (k := m.tmod 10) (by simp only [h1, if_true, if_false])
          have hw : IntKind.i64.wrap (m.tdiv 10) = m.tdiv 10 := wrap64 (by omega) (by omega)
          rw [hw, hb]
          have h0 := hcm (.inr h2)
          refine ⟨by have : s.size ≤ 20 := hs
                     show 1 + s.size ≤ 9223372036854775807
                     omega, again_intro (m.tdiv 10, (⟨[UInt8.ofNat (48 + m.natAbs % 10)].toArray⟩ : ByteArray) ++ s) h0 hmu ?_⟩
          simp only [go_sem]
end Go.VS

set_option linter.unusedSimpArgs false
set_option linter.unusedVariables false
open Go.Proofs
set_option maxRecDepth 20000
namespace Go.VS
def spB : ByteArray := ⟨#[32]⟩
/-- a slot, written out -/
def slotB (n : Int) (t : ByteArray) : ByteArray := itoaB n ++ ⟨#[32]⟩ ++ itoaB (dig t) ++ ⟨#[32]⟩ ++ t
def slotS (n : Int) (t : ByteArray) : ByteArray := if (1 ≤ n ∧ n ≤ 1000000) ∧ t.size ≤ 300 then slotB n t else ⟨#[]⟩
theorem dig_rng (t : ByteArray) : 0 ≤ dig t ∧ dig t < 2147483647 := digN_rng t _
theorem slotB_parts (n : Int) (t : ByteArray) (h : -9223372036854775808 ≤ n ∧ n ≤ 9223372036854775807) (ht : t.size ≤ 300) : (itoaB n).size + 1 ≤ 22 ∧ (itoaB n ++ ⟨#[32]⟩).size + (itoaB (dig t)).size ≤ 43 ∧ (itoaB n ++ ⟨#[32]⟩ ++ itoaB (dig t)).size + 1 ≤ 44 ∧ (itoaB n ++ ⟨#[32]⟩ ++ itoaB (dig t) ++ ⟨#[32]⟩).size + t.size ≤ 344 := by
  have h1 := itoaB_size n h
  have h2 := itoaB_size (dig t) (by have := dig_rng t; omega)
  have h3 : (⟨#[32]⟩ : ByteArray).size = 1 := rfl
  simp only [ByteArray.size_append, h3]
  omega
theorem slotS_size (n : Int) (t : ByteArray) : (slotS n t).size ≤ 344 := by
  unfold slotS
  split
  · rename_i h
    have := (slotB_parts n t (by omega) h.2).2.2.2
    unfold slotB
    rw [ByteArray.size_append]
    exact this
  · exact Nat.zero_le _
end Go.VS

set_option linter.unusedSimpArgs false
set_option linter.unusedVariables false
open Go.Proofs
set_option maxRecDepth 20000
namespace Go.VS
theorem f48_at : gz.P.funcs[48]? = some Tryd.f48 := by
  have h : Tryd.prog.funcs[48]? = some Tryd.f48 := by kernel_rfl
  exact h
/-- the words of a text, up to a place; where the next one begins -/
def wordsN (s : ByteArray) : Nat → List ByteArray × Nat
  | 0 => ([], 0)
  | i + 1 => if i = s.size ∨ ((s.data.toList.getD i 0).toNat : Int) = 32 then ((wordsN s i).1 ++ [s.extract (wordsN s i).2 i], i + 1) else wordsN s i
theorem wordsN_le (s : ByteArray) : ∀ i, (wordsN s i).2 ≤ i ∧ (wordsN s i).1.length ≤ i
  | 0 => ⟨Nat.le_refl _, Nat.le_refl _⟩
  | i + 1 => by
    have := wordsN_le s i
    simp only [wordsN]
    split
    · simp; omega
    · omega
def wordsB (s : ByteArray) : List ByteArray := (wordsN s (s.size + 1)).1
theorem ok48 (s : ByteArray) (hs : s.size ≤ 4000000) : VCalls gz 48 [.lit (.string s)] none (fun y _ => y = .lst true 1 ((wordsB s).map strA)) := by
  refine VCalls.go (nt := 33) (keep := [0, 2, 3, 4, 5, 10, 22]) (muts := []) (mvs := []) [] f48_at rfl (by kernel_rfl) rfl (by kernel_rfl) rfl (fun i h => by cases h) rfl ?_
  intro hok
  simp only [go_sem] at hok
  simp only [Tryd.f48, Func.code, Option.getD_some]
  simp only [go_sem]
  refine vm_loopK (α := Nat) (fun i => [(0, .lit (.string s)), (3, .lst true 1 ((wordsN s i).1.map strA)), (4, .lit (.int .i64 (wordsN s i).2)), (5, .lit (.int .i64 i))]) (fun i => i ≤ s.size + 1) (fun i => s.size + 1 - i) 0 ?_ (by simp) (by kernel_rfl) (fun _ => rfl) ?_
  · simp only [go_sem]
    exact ⟨rfl, rfl, rfl⟩
  · intro i hi hk
    have hle := wordsN_le s i
    simp only [go_sem]
    intro hm
    first | refine branch_ndec (fun h => ?_) (fun h => ?_) | refine branch_dec (fun h => ?_) (fun h => ?_) | refine branch_nbool (fun h => ?_) (fun h => ?_) | refine branch_split (fun h => ?_) (fun h => ?_)
    · have hw : IntKind.i64.wrap ((i : Int) + 1) = (i : Int) + 1 := wrap64 (by omega) (by omega)
      simp only [go_sem, hw]
      intro hm2
      first | refine gj_ndec (fun h1 => ?_) (fun h1 => ?_) | refine gj_dec (fun h1 => ?_) (fun h1 => ?_) | refine gj_nbool (fun h1 => ?_) (fun h1 => ?_) | refine gj_bool (fun h1 => ?_) (fun h1 => ?_)
      · have e : i = s.size := by omega
        have hn : wordsN s (i + 1) = ((wordsN s i).1 ++ [s.extract (wordsN s i).2 i], i + 1) := by simp only [wordsN]; rw [if_pos (.inl e)]
        simp only [go_sem, eq_true h1]
        refine ⟨by omega, by omega, by omega, by omega, ?_⟩
        rw [hw]
        refine again_intro (i + 1) (by omega) (by omega) ?_
        simp only [go_sem, hn]
        trivial
      · have hlt : i < s.size := by omega
        have h0 : (0 : Int) ≤ (i : Int) := by omega
        simp only [go_sem, h1, h0, hlt]
        have hlt2 : (i : Int) < (s.size : Int) := by omega
        simp only [go_sem, hlt2]
        first | refine branch_ndec (fun h2 => ?_) (fun h2 => ?_) | refine branch_dec (fun h2 => ?_) (fun h2 => ?_) | refine branch_nbool (fun h2 => ?_) (fun h2 => ?_) | refine branch_split (fun h2 => ?_) (fun h2 => ?_)
        · have hn : wordsN s (i + 1) = ((wordsN s i).1 ++ [s.extract (wordsN s i).2 i], i + 1) := by simp only [wordsN]; rw [if_pos (.inr h2)]
          simp only [go_sem]
          refine ⟨by omega, by omega, by omega, by omega, ?_⟩
          rw [hw]
          refine again_intro (i + 1) (by omega) (by omega) ?_
          simp only [go_sem, hn]
          trivial
        · have hn : wordsN s (i + 1) = wordsN s i := by simp only [wordsN]; rw [if_neg (by omega)]
          simp only [go_sem, hw]
          refine again_intro (i + 1) (by omega) (by omega) ?_
          simp only [go_sem, hn]
          rfl
    · simp only [go_sem]
      have : i = s.size + 1 := by omega
      subst this
      rfl
end Go.VS
