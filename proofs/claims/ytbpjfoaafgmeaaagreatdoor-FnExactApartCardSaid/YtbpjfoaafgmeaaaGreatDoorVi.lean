/- VS: functions by the machine. -/
import Derived.Test.YtbpjfoaafgmeaaaGreatDoorVf
import Derived.Test.YtbpjfoaafgmeaaaGreatDoorVh
import Derived.Test.YtbpjfoaafgmeaaaGreatDoorVg
set_option linter.unusedSimpArgs false
set_option linter.unusedVariables false
open Go.Proofs
set_option maxRecDepth 20000
namespace Go.VS
theorem f37_at : gz.P.funcs[37]? = some Tryz.f37 := by
  have h : Tryz.prog.funcs[37]? = some Tryz.f37 := by kernel_rfl
  exact h
theorem f39_at : gz.P.funcs[39]? = some Tryz.f39 := by
  have h : Tryz.prog.funcs[39]? = some Tryz.f39 := by kernel_rfl
  exact h
theorem f99_at : gz.P.funcs[99]? = some Tryz.f99 := by
  have h : Tryz.prog.funcs[99]? = some Tryz.f99 := by kernel_rfl
  exact h
theorem f51_at : gz.P.funcs[51]? = some Tryz.f51 := by
  have h : Tryz.prog.funcs[51]? = some Tryz.f51 := by kernel_rfl
  exact h
theorem f97_at : gz.P.funcs[97]? = some Tryz.f97 := by
  have h : Tryz.prog.funcs[97]? = some Tryz.f97 := by kernel_rfl
  exact h
theorem f57_at : gz.P.funcs[57]? = some Tryz.f57 := by
  have h : Tryz.prog.funcs[57]? = some Tryz.f57 := by kernel_rfl
  exact h
theorem f98_at : gz.P.funcs[98]? = some Tryz.f98 := by
  have h : Tryz.prog.funcs[98]? = some Tryz.f98 := by kernel_rfl
  exact h
theorem f53_at : gz.P.funcs[53]? = some Tryz.f53 := by
  have h : Tryz.prog.funcs[53]? = some Tryz.f53 := by kernel_rfl
  exact h
theorem f112_at : gz.P.funcs[112]? = some Tryz.f112 := by
  have h : Tryz.prog.funcs[112]? = some Tryz.f112 := by kernel_rfl
  exact h
theorem f154_at : gz.P.funcs[154]? = some Tryz.f154 := by
  have h : Tryz.prog.funcs[154]? = some Tryz.f154 := by kernel_rfl
  exact h
theorem f141_at : gz.P.funcs[141]? = some Tryz.f141 := by
  have h : Tryz.prog.funcs[141]? = some Tryz.f141 := by kernel_rfl
  exact h
theorem f114_at : gz.P.funcs[114]? = some Tryz.f114 := by
  have h : Tryz.prog.funcs[114]? = some Tryz.f114 := by kernel_rfl
  exact h
theorem f140_at : gz.P.funcs[140]? = some Tryz.f140 := by
  have h : Tryz.prog.funcs[140]? = some Tryz.f140 := by kernel_rfl
  exact h
theorem f146_at : gz.P.funcs[146]? = some Tryz.f146 := by
  have h : Tryz.prog.funcs[146]? = some Tryz.f146 := by kernel_rfl
  exact h
theorem f113_at : gz.P.funcs[113]? = some Tryz.f113 := by
  have h : Tryz.prog.funcs[113]? = some Tryz.f113 := by kernel_rfl
  exact h
theorem f104_at : gz.P.funcs[104]? = some Tryz.f104 := by
  have h : Tryz.prog.funcs[104]? = some Tryz.f104 := by kernel_rfl
  exact h
/-- may there be so many servers? -/
def srv (n : Int) : Bool := decide (n = 1 ∨ n = 4 ∨ n = 7)
theorem srv_iff {n : Int} : srv n = true ↔ n = 1 ∨ n = 4 ∨ n = 7 := by simp [srv]
def qrm (n : Int) : Int := if srv n = true then n - (n - 1).tdiv 3 else -1
theorem ok37 (n : Int) : VCalls gz 37 [.lit (.int .i64 n)] none (fun y _ => y = .lit (.bool (srv n))) := by
  refine VCalls.go (nt := 13) (keep := [0, 2]) (muts := []) (mvs := []) [] f37_at rfl (by kernel_rfl) rfl (by kernel_rfl) rfl (fun i h => by cases h) rfl ?_
  intro hok
  simp only [go_sem] at hok
  simp only [Tryz.f37, Func.code, Option.getD_some]
  simp only [go_sem]
  by_cases h1 : n = 1
  · subst h1
    simp only [go_sem]
    try rfl
  · by_cases h4 : n = 4
    · subst h4
      simp only [go_sem]
      try rfl
    · by_cases h7 : n = 7
      · subst h7
        simp only [go_sem]
        try rfl
      · have : srv n = false := by simp [srv, h1, h4, h7]
        simp only [go_sem, h1, h4, h7, this]
theorem ok39 (n : Int) : VCalls gz 39 [.lit (.int .i64 n)] none (fun y _ => y = .lit (.bool (decide (0 ≤ n ∧ n ≤ 100000)))) := by
  refine VCalls.go (nt := 5) (keep := [0, 2]) (muts := []) (mvs := []) [] f39_at rfl (by kernel_rfl) rfl (by kernel_rfl) rfl (fun i h => by cases h) rfl ?_
  intro hok
  simp only [go_sem] at hok
  simp only [Tryz.f39, Func.code, Option.getD_some]
  simp only [go_sem]
  refine call_lend ?_
  simp only [go_sem]
  refine callN.eq (ok38 n 0 100000) (by simp only [go_sem]) ?_
  simp only [go_sem]
theorem ok98 (n : Int) : VCalls gz 98 [.lit (.int .i64 n)] none (fun y _ => y = .lit (.bool (decide (0 ≤ n ∧ n ≤ 2147483646)))) := by
  refine VCalls.go (nt := 5) (keep := [0, 2]) (muts := []) (mvs := []) [] f98_at rfl (by kernel_rfl) rfl (by kernel_rfl) rfl (fun i h => by cases h) rfl ?_
  intro hok
  simp only [go_sem] at hok
  simp only [Tryz.f98, Func.code, Option.getD_some]
  simp only [go_sem]
  refine call_lend ?_
  simp only [go_sem]
  refine callN.eq (ok38 n 0 2147483646) (by simp only [go_sem]) ?_
  simp only [go_sem]
theorem ok53 (n : Int) : VCalls gz 53 [.lit (.int .i64 n)] none (fun y _ => y = .lit (.bool (decide (1 ≤ n ∧ n ≤ 100000)))) := by
  refine VCalls.go (nt := 5) (keep := [0, 2]) (muts := []) (mvs := []) [] f53_at rfl (by kernel_rfl) rfl (by kernel_rfl) rfl (fun i h => by cases h) rfl ?_
  intro hok
  simp only [go_sem] at hok
  simp only [Tryz.f53, Func.code, Option.getD_some]
  simp only [go_sem]
  refine call_lend ?_
  simp only [go_sem]
  refine callN.eq (ok52 n 1 100000) (by simp only [go_sem]) ?_
  simp only [go_sem]
theorem ok112 (n : Int) : VCalls gz 112 [.lit (.int .i64 n)] none (fun y _ => y = .lit (.bool (decide (0 ≤ n ∧ n ≤ 2147483646)))) := by
  refine VCalls.go (nt := 5) (keep := [0, 2]) (muts := []) (mvs := []) [] f112_at rfl (by kernel_rfl) rfl (by kernel_rfl) rfl (fun i h => by cases h) rfl ?_
  intro hok
  simp only [go_sem] at hok
  simp only [Tryz.f112, Func.code, Option.getD_some]
  simp only [go_sem]
  refine call_lend ?_
  simp only [go_sem]
  refine callN.eq (ok52 n 0 2147483646) (by simp only [go_sem]) ?_
  simp only [go_sem]
theorem ok154 (n : Int) : VCalls gz 154 [.lit (.int .i64 n)] none (fun y _ => y = .lit (.bool (decide (0 ≤ n ∧ n ≤ 6)))) := by
  refine VCalls.go (nt := 5) (keep := [0, 2]) (muts := []) (mvs := []) [] f154_at rfl (by kernel_rfl) rfl (by kernel_rfl) rfl (fun i h => by cases h) rfl ?_
  intro hok
  simp only [go_sem] at hok
  simp only [Tryz.f154, Func.code, Option.getD_some]
  simp only [go_sem]
  refine call_lend ?_
  simp only [go_sem]
  refine callN.eq (ok52 n 0 6) (by simp only [go_sem]) ?_
  simp only [go_sem]
theorem ok99 (n : Int) : VCalls gz 99 [.lit (.int .i64 n)] none (fun y _ => y = .lit (.int .i64 (qrm n))) := by
  refine VCalls.go (nt := 11) (keep := [0, 2, 5]) (muts := []) (mvs := []) [] f99_at rfl (by kernel_rfl) rfl (by kernel_rfl) rfl (fun i h => by cases h) rfl ?_
  intro hok
  simp only [go_sem] at hok
  simp only [Tryz.f99, Func.code, Option.getD_some]
  simp only [go_sem]
  refine call_lend ?_
  simp only [go_sem]
  refine callN.eq (ok37 n) (by simp only [go_sem]) ?_
  simp only [go_sem]
  cases h : srv n
  · simp only [go_sem]
    simp only [qrm, h, Bool.false_eq_true, if_false]
  · simp only [go_sem]
    rcases srv_iff.1 h with rfl | rfl | rfl <;> rfl
theorem ok51 (n : Int) : VCalls gz 51 [.lit (.int .i64 n)] none (fun y _ => y = .lit (.int .i64 (qrm n))) := by
  refine VCalls.go (nt := 18) (keep := [0, 2, 12]) (muts := []) (mvs := []) [] f51_at rfl (by kernel_rfl) rfl (by kernel_rfl) rfl (fun i h => by cases h) rfl ?_
  intro hok
  simp only [go_sem] at hok
  simp only [Tryz.f51, Func.code, Option.getD_some]
  simp only [go_sem]
  by_cases h1 : n = 1
  · subst h1
    simp only [go_sem]
    try rfl
  · by_cases h4 : n = 4
    · subst h4
      simp only [go_sem]
      try rfl
    · by_cases h7 : n = 7
      · subst h7
        simp only [go_sem]
        try rfl
      · have : srv n = false := by simp [srv, h1, h4, h7]
        simp only [go_sem, h1, h4, h7]
        simp only [qrm, this, Bool.false_eq_true, if_false]
theorem wrap_sum0 {a b : Nat} (ha : a ≤ 9223372036854775807) (hb : b ≤ 9223372036854775807) : (IntKind.i64.wrap ((a : Int) + (b : Int)) = 0) = (a = 0 ∧ b = 0) := by
  apply propext
  simp only [IntKind.wrap, IntKind.bits, IntKind.signed, IntKind.max]
  constructor
  · intro h
    simp at h
    split at h <;> omega
  · rintro ⟨rfl, rfl⟩
    rfl
/-- the first proof -/
def Prf.one (p : Prf) : Bool := decide (p.view = 0 ∧ p.name = 0 ∧ p.bys.length = 0 ∧ p.tags.length = 0)
theorem ok97 (p : Prf) : VCalls gz 97 [p.enc false] none (fun y _ => y = .lit (.bool p.one)) := by
  refine VCalls.go (nt := 21) (keep := [0, 1, 2]) (muts := []) (mvs := []) [] f97_at rfl (by kernel_rfl) rfl (by kernel_rfl) rfl (fun i h => by cases h) rfl ?_
  intro hok
  simp only [go_sem] at hok
  simp only [Tryz.f97, Func.code, Option.getD_some]
  simp only [go_sem]
  by_cases h1 : p.view = 0
  · by_cases h2 : p.name = 0
    · simp only [go_sem, h1, h2]
      have hs := wrap_sum0 (a := p.bys.length) (b := p.tags.length) hok.2.2.1.1 hok.2.2.2.1
      simp only [hs, Prf.one, h1, h2, true_and]
      exact fun _ _ => trivial
    · have : p.one = false := by simp [Prf.one, h2]
      simp only [go_sem, h1, h2, this]
  · have : p.one = false := by simp [Prf.one, h1]
    simp only [go_sem, h1, this]
theorem ok57 (p : Prf) : VCalls gz 57 [p.enc false] none (fun y _ => y = .lit (.bool p.one)) := by
  refine VCalls.go (nt := 23) (keep := [0, 1, 2]) (muts := []) (mvs := []) [] f57_at rfl (by kernel_rfl) rfl (by kernel_rfl) rfl (fun i h => by cases h) rfl ?_
  intro hok
  simp only [go_sem] at hok
  simp only [Tryz.f57, Func.code, Option.getD_some]
  simp only [go_sem]
  by_cases h1 : p.view = 0
  · by_cases h2 : p.name = 0
    · by_cases h3 : (p.bys.length : Int) = 0
      · simp only [go_sem, h1, h2, h3]
        have h3' : p.bys.length = 0 := by omega
        have h4 : ((p.tags.length : Int) = 0) = (p.tags.length = 0) := by apply propext; omega
        simp only [Prf.one, h1, h2, h3', h4, true_and]
        exact fun _ _ => trivial
      · have : p.one = false := by simp only [Prf.one, decide_eq_false_iff_not]; omega
        simp only [go_sem, h1, h2, h3, this]
    · have : p.one = false := by simp [Prf.one, h2]
      simp only [go_sem, h1, h2, this]
  · have : p.one = false := by simp [Prf.one, h1]
    simp only [go_sem, h1, this]
/-- what one votes for -/
def balB (v m : Int) : ByteArray := ⟨#[118, 111, 116, 101, 32]⟩ ++ itoaB v ++ ⟨#[32]⟩ ++ itoaB m
/-- a server's tag -/
def tagV (s : Int) (t : ByteArray) : Int := dig (⟨#[115, 101, 99, 114, 101, 116]⟩ ++ itoaB s ++ ⟨#[47]⟩ ++ t)
theorem digV_rng (t : ByteArray) : 0 ≤ dig t ∧ dig t < 2147483647 := digN_rng t _
theorem tagV_rng (s : Int) (t : ByteArray) : 0 ≤ tagV s t ∧ tagV s t < 2147483647 := digV_rng _
def rng (n : Int) : Prop := -9223372036854775808 ≤ n ∧ n ≤ 9223372036854775807
theorem balB_size (v m : Int) (hv : rng v) (hm : rng m) : (balB v m).size ≤ 48 := by
  have h1 := itoaB_size v hv
  have h2 := itoaB_size m hm
  have h3 : (⟨#[32]⟩ : ByteArray).size = 1 := rfl
  have h4 : (⟨#[118, 111, 116, 101, 32]⟩ : ByteArray).size = 5 := rfl
  unfold balB
  simp only [ByteArray.size_append, h3, h4]
  omega
theorem ok141 (v m : Int) : VCalls gz 141 [.lit (.int .i64 v), .lit (.int .i64 m)] none (fun y _ => y = .lit (.string (balB v m))) := by
  refine VCalls.go (nt := 12) (keep := [0, 1, 4]) (muts := []) (mvs := []) [] f141_at rfl (by kernel_rfl) rfl (by kernel_rfl) rfl (fun i h => by cases h) rfl ?_
  intro hok
  simp only [go_sem] at hok
  simp only [Tryz.f141, Func.code, Option.getD_some]
  simp only [go_sem]
  have h1 := itoaB_size v hok.1
  have h2 := itoaB_size m hok.2
  have h3 : (#[32] : Array UInt8).size = 1 := rfl
  have h4 : (#[118, 111, 116, 101, 32] : Array UInt8).size = 5 := rfl
  refine call_lend ?_
  simp only [go_sem]
  refine callN.eq (ok152 v) (by simp only [go_sem]) ?_
  simp only [go_sem]
  refine ⟨by omega, by omega, ?_⟩
  refine call_lend ?_
  simp only [go_sem]
  refine callN.eq (ok152 m) (by simp only [go_sem]) ?_
  simp only [go_sem]
  refine ⟨by omega, rfl⟩
theorem ok114 (v m : Int) : VCalls gz 114 [.lit (.int .i64 v), .lit (.int .i64 m)] none (fun y _ => y = .lit (.string (balB v m))) := by
  refine VCalls.go (nt := 12) (keep := [0, 1, 4]) (muts := []) (mvs := []) [] f114_at rfl (by kernel_rfl) rfl (by kernel_rfl) rfl (fun i h => by cases h) rfl ?_
  intro hok
  simp only [go_sem] at hok
  simp only [Tryz.f114, Func.code, Option.getD_some]
  simp only [go_sem]
  have h1 := itoaB_size v hok.1
  have h2 := itoaB_size m hok.2
  have h3 : (#[32] : Array UInt8).size = 1 := rfl
  have h4 : (#[118, 111, 116, 101, 32] : Array UInt8).size = 5 := rfl
  refine call_lend ?_
  simp only [go_sem]
  refine callN.eq (ok147 v) (by simp only [go_sem]) ?_
  simp only [go_sem]
  refine ⟨by omega, by omega, ?_⟩
  refine call_lend ?_
  simp only [go_sem]
  refine callN.eq (ok147 m) (by simp only [go_sem]) ?_
  simp only [go_sem]
  refine ⟨by omega, rfl⟩
theorem ok140 (s : Int) (t : ByteArray) (ht : t.size ≤ 1000000) : VCalls gz 140 [.lit (.int .i64 s), .lit (.string t)] none (fun y _ => y = .lit (.int .i64 (tagV s t))) := by
  refine VCalls.go (nt := 12) (keep := [0, 1, 4]) (muts := []) (mvs := []) [] f140_at rfl (by kernel_rfl) rfl (by kernel_rfl) rfl (fun i h => by cases h) rfl ?_
  intro hok
  simp only [go_sem] at hok
  simp only [Tryz.f140, Func.code, Option.getD_some]
  simp only [go_sem]
  have h1 := itoaB_size s hok.1
  have h3 : (#[47] : Array UInt8).size = 1 := rfl
  have h4 : (#[115, 101, 99, 114, 101, 116] : Array UInt8).size = 6 := rfl
  refine call_lend ?_
  simp only [go_sem]
  refine callN.eq (ok152 s) (by simp only [go_sem]) ?_
  simp only [go_sem]
  refine ⟨by omega, by omega, by omega, ?_⟩
  refine call_lend ?_
  simp only [go_sem]
  refine callN.eq (ok103 (⟨#[115, 101, 99, 114, 101, 116]⟩ ++ itoaB s ++ ⟨#[47]⟩ ++ t)) (by simp only [go_sem]) ?_
  simp only [go_sem]
  try rfl
theorem ok146 (s : Int) (t : ByteArray) (ht : t.size ≤ 1000000) : VCalls gz 146 [.lit (.int .i64 s), .lit (.string t)] none (fun y _ => y = .lit (.int .i64 (if 0 ≤ s ∧ s ≤ 6 then tagV s t else -1))) := by
  refine VCalls.go (nt := 15) (keep := [0, 1, 4, 7]) (muts := []) (mvs := []) [] f146_at rfl (by kernel_rfl) rfl (by kernel_rfl) rfl (fun i h => by cases h) rfl ?_
  intro hok
  simp only [go_sem] at hok
  simp only [Tryz.f146, Func.code, Option.getD_some]
  simp only [go_sem]
  have h1 := itoaB_size s hok.1
  have h3 : (#[47] : Array UInt8).size = 1 := rfl
  have h4 : (#[115, 101, 99, 114, 101, 116] : Array UInt8).size = 6 := rfl
  refine call_lend ?_
  simp only [go_sem]
  refine callN.eq (ok154 s) (by simp only [go_sem]) ?_
  simp only [go_sem]
  by_cases hs : 0 ≤ s ∧ s ≤ 6
  · simp only [eq_true hs, if_true]
    simp only [go_sem]
    refine call_lend ?_
    simp only [go_sem]
    refine callN.eq (ok147 s) (by simp only [go_sem]) ?_
    simp only [go_sem]
    refine ⟨by omega, by omega, by omega, ?_⟩
    refine call_lend ?_
    simp only [go_sem]
    refine callN.eq (ok128 (⟨#[115, 101, 99, 114, 101, 116]⟩ ++ itoaB s ++ ⟨#[47]⟩ ++ t)) (by simp only [go_sem]) ?_
    simp only [go_sem]
    try rfl
  · simp only [hs, if_false]
    simp only [go_sem]
theorem ok113 (s : Int) (t : ByteArray) (g : Int) (hs : 0 ≤ s ∧ s ≤ 6) (ht : t.size ≤ 1000000) : VCalls gz 113 [.lit (.int .i64 s), .lit (.string t), .lit (.int .i64 g)] none (fun y _ => y = .lit (.bool (decide (g = tagV s t)))) := by
  refine VCalls.go (nt := 16) (keep := [0, 1, 2, 6]) (muts := []) (mvs := []) [] f113_at rfl (by kernel_rfl) rfl (by kernel_rfl) rfl (fun i h => by cases h) rfl ?_
  intro hok
  simp only [go_sem] at hok
  simp only [Tryz.f113, Func.code, Option.getD_some]
  simp only [go_sem]
  have hr := tagV_rng s t
  by_cases h1 : g = -1
  · have : ¬ g = tagV s t := by omega
    simp only [go_sem, eq_true h1, this]
  · simp only [go_sem, h1]
    refine call_lend ?_
    simp only [go_sem]
    refine callN.eq (ok146 s t ht) (by simp only [go_sem]) ?_
    simp only [go_sem]
    simp only [go_sem, hs.1, hs.2]
theorem ok104 (s v m : Int) : VCalls gz 104 [.lit (.int .i64 s), .lit (.int .i64 v), .lit (.int .i64 m)] none (fun y _ => y = (Vot.mk v m s (tagV s (balB v m))).enc) := by
  refine VCalls.go (nt := 16) (keep := [0, 1, 2, 6]) (muts := []) (mvs := []) [] f104_at rfl (by kernel_rfl) rfl (by kernel_rfl) rfl (fun i h => by cases h) rfl ?_
  intro hok
  simp only [go_sem] at hok
  simp only [Tryz.f104, Func.code, Option.getD_some]
  simp only [go_sem]
  have hb := balB_size v m hok.2.1 hok.2.2
  refine call_lend ?_
  simp only [go_sem]
  refine callN.eq (ok141 v m) (by simp only [go_sem]) ?_
  simp only [go_sem]
  refine call_lend ?_
  simp only [go_sem]
  refine callN.eq (ok140 s (balB v m) (by omega)) (by simp only [go_sem]) ?_
  simp only [go_sem]
end Go.VS

set_option linter.unusedSimpArgs false
set_option linter.unusedVariables false
open Go.Proofs
set_option maxRecDepth 20000
namespace Go.VS
theorem f44_at : gz.P.funcs[44]? = some Tryz.f44 := by
  have h : Tryz.prog.funcs[44]? = some Tryz.f44 := by kernel_rfl
  exact h
theorem f62_at : gz.P.funcs[62]? = some Tryz.f62 := by
  have h : Tryz.prog.funcs[62]? = some Tryz.f62 := by kernel_rfl
  exact h
/-- is a vote right? -/
def Vot.ok (v : Vot) (n : Int) : Bool := srv n && (decide (0 ≤ v.bY ∧ v.bY ≤ n - 1) && (decide (1 ≤ v.view ∧ v.view ≤ 100000) && (decide (0 ≤ v.name ∧ v.name ≤ 2147483646) && decide (v.tag = tagV v.bY (balB v.view v.name)))))
theorem qrm_pos {n : Int} : (0 < qrm n) = (srv n = true) := by
  unfold qrm
  by_cases h : srv n = true
  · simp only [h, if_true]
    rcases srv_iff.1 h with rfl | rfl | rfl <;> simp <;> decide
  · simp [h]
theorem qrm_neg {n : Int} : (qrm n < 0) = (srv n = false) := by
  unfold qrm
  by_cases h : srv n = true
  · simp only [h, if_true]
    rcases srv_iff.1 h with rfl | rfl | rfl <;> simp <;> decide
  · simp [h]
theorem ok44 (v : Vot) (n : Int) : VCalls gz 44 [v.enc, .lit (.int .i64 n)] none (fun y _ => y = .lit (.bool (v.ok n))) := by
  refine VCalls.go (nt := 35) (keep := [0, 1, 2, 4]) (muts := []) (mvs := []) [(1, .tree true (.take 0 (.all (.cons 1 (.take 2 (.take 3 (.take 4 (.take 5 (.take 6 (.all (.cons 7 (.take 8 (.take 9 (.take 10 (.take 11 (.all (.cons 12 (.take 13 (.take 14 (.take 15 (.take 16 (.all (.cons 17 (.take 18 (.take 19 (.take 20 (.take 21 (.take 22 (.take 23 (.take 24 (.take 25 (.take 27 (.all (.cons 26 (.take 28 (.take 29 (.all (.cons 30 .done .nil)))) .nil))))))))))) .nil)))))) .nil)))))) .nil))))))) .nil))))] f44_at rfl (by kernel_rfl) rfl (by kernel_rfl) rfl (fun i h => by cases h) rfl ?_
  intro hok
  simp only [go_sem] at hok
  simp only [Tryz.f44, Func.code, Option.getD_some]
  simp only [go_sem]
  refine call_lend ?_
  simp only [go_sem]
  refine callN.eq (ok37 n) (by simp only [go_sem]) ?_
  simp only [go_sem]
  by_cases h1 : srv n = true
  rotate_left
  · have : v.ok n = false := by simp [Vot.ok, h1]
    simp only [go_sem, h1, this]
  have hn := srv_iff.1 h1
  have hw : IntKind.i64.wrap (n - 1) = n - 1 := wrap64 (by omega) (by omega)
  simp only [go_sem, h1, hw]
  refine call_lend ?_
  simp only [go_sem]
  refine callN.eq (ok38 v.bY 0 (n - 1)) (by simp only [go_sem]) ?_
  simp only [go_sem]
  by_cases h2 : 0 ≤ v.bY ∧ v.bY ≤ n - 1
  rotate_left
  · have : v.ok n = false := by simp only [Vot.ok, eq_false h2, decide_false, Bool.false_and, Bool.and_false]
    simp only [go_sem, eq_false h2, this]
  simp only [go_sem, eq_true h2]
  refine call_lend ?_
  simp only [go_sem]
  refine callN.eq (ok38 v.view 1 100000) (by simp only [go_sem]) ?_
  simp only [go_sem]
  by_cases h3 : 1 ≤ v.view ∧ v.view ≤ 100000
  rotate_left
  · have : v.ok n = false := by simp only [Vot.ok, eq_false h3, decide_false, Bool.false_and, Bool.and_false]
    simp only [go_sem, eq_false h3, this]
  simp only [go_sem, eq_true h3]
  refine call_lend ?_
  simp only [go_sem]
  refine callN.eq (ok98 v.name) (by simp only [go_sem]) ?_
  simp only [go_sem]
  by_cases h4 : 0 ≤ v.name ∧ v.name ≤ 2147483646
  rotate_left
  · have : v.ok n = false := by simp only [Vot.ok, eq_false h4, decide_false, Bool.false_and, Bool.and_false]
    simp only [go_sem, eq_false h4, this]
  simp only [go_sem, eq_true h4]
  refine call_lend ?_
  simp only [go_sem]
  refine callN.eq (ok104 v.bY v.view v.name) (by simp only [go_sem]) ?_
  simp only [go_sem]
  simp only [Vot.ok, h1, eq_true h2, eq_true h3, eq_true h4, decide_true, Bool.true_and]
  exact decide_eq_decide.2 ⟨Eq.symm, Eq.symm⟩
theorem ok62 (v : Vot) (n : Int) : VCalls gz 62 [v.enc, .lit (.int .i64 n)] none (fun y _ => y = .lit (.bool (v.ok n))) := by
  refine VCalls.go (nt := 37) (keep := [0, 1, 2, 4]) (muts := []) (mvs := []) [(1, .tree true (.take 0 (.all (.cons 1 (.take 2 (.take 3 (.take 4 (.take 5 (.take 6 (.take 7 (.all (.cons 8 (.take 9 (.take 10 (.take 11 (.take 12 (.all (.cons 13 (.take 14 (.take 15 (.take 16 (.take 17 (.all (.cons 18 (.take 19 (.take 20 (.take 21 (.take 22 (.take 23 (.take 24 (.take 25 (.take 26 (.take 28 (.take 29 (.all (.cons 27 (.all (.cons 30 (.take 31 (.all (.cons 32 .done .nil))) .nil)) .nil)))))))))))) .nil)))))) .nil)))))) .nil)))))))) .nil))))] f62_at rfl (by kernel_rfl) rfl (by kernel_rfl) rfl (fun i h => by cases h) rfl ?_
  intro hok
  simp only [go_sem] at hok
  simp only [Tryz.f62, Func.code, Option.getD_some]
  simp only [go_sem]
  refine call_lend ?_
  simp only [go_sem]
  refine callN.eq (ok51 n) (by simp only [go_sem]) ?_
  simp only [go_sem]
  have hq := qrm_pos (n := n)
  by_cases h1 : srv n = true
  rotate_left
  · have : v.ok n = false := by simp [Vot.ok, h1]
    simp only [go_sem, hq, h1, this]
  have hn := srv_iff.1 h1
  have hw : IntKind.i64.wrap (n - 1) = n - 1 := wrap64 (by omega) (by omega)
  simp only [go_sem, hq, h1, hw]
  refine call_lend ?_
  simp only [go_sem]
  refine callN.eq (ok52 v.bY 0 (n - 1)) (by simp only [go_sem]) ?_
  simp only [go_sem]
  by_cases h2 : 0 ≤ v.bY ∧ v.bY ≤ n - 1
  rotate_left
  · have : v.ok n = false := by simp only [Vot.ok, eq_false h2, decide_false, Bool.false_and, Bool.and_false]
    simp only [go_sem, eq_false h2, this]
  simp only [go_sem, eq_true h2]
  refine call_lend ?_
  simp only [go_sem]
  refine callN.eq (ok53 v.view) (by simp only [go_sem]) ?_
  simp only [go_sem]
  by_cases h3 : 1 ≤ v.view ∧ v.view ≤ 100000
  rotate_left
  · have : v.ok n = false := by simp only [Vot.ok, eq_false h3, decide_false, Bool.false_and, Bool.and_false]
    simp only [go_sem, eq_false h3, this]
  simp only [go_sem, eq_true h3]
  refine call_lend ?_
  simp only [go_sem]
  refine callN.eq (ok112 v.name) (by simp only [go_sem]) ?_
  simp only [go_sem]
  by_cases h4 : 0 ≤ v.name ∧ v.name ≤ 2147483646
  rotate_left
  · have : v.ok n = false := by simp only [Vot.ok, eq_false h4, decide_false, Bool.false_and, Bool.and_false]
    simp only [go_sem, eq_false h4, this]
  simp only [go_sem, eq_true h4]
  refine call_lend ?_
  simp only [go_sem]
  refine callN.eq (ok114 v.view v.name) (by simp only [go_sem]) ?_
  simp only [go_sem]
  have hb := balB_size v.view v.name hok.1.1 hok.1.2.1
  refine call_lend ?_
  simp only [go_sem]
  refine callN.eq (ok113 v.bY (balB v.view v.name) v.tag (by omega) (by omega)) (by simp only [go_sem]) ?_
  simp only [go_sem]
  simp only [Vot.ok, h1, eq_true h2, eq_true h3, eq_true h4, decide_true, Bool.true_and]
end Go.VS
