/- VS: functions by the machine. -/
import Derived.Test.YtdbfhpndlocilaaGreatDoorVf
import Derived.Test.YtdbfhpndlocilaaGreatDoorVn
set_option linter.unusedSimpArgs false
set_option linter.unusedVariables false
open Go.Proofs Go.RowKit
set_option maxRecDepth 20000
namespace Go.VS
theorem f15_at : gz.P.funcs[15]? = some Tryz.f15 := by
  have h : Tryz.prog.funcs[15]? = some Tryz.f15 := by kernel_rfl
  exact h
theorem f14_at : gz.P.funcs[14]? = some Tryz.f14 := by
  have h : Tryz.prog.funcs[14]? = some Tryz.f14 := by kernel_rfl
  exact h
theorem f49_at : gz.P.funcs[49]? = some Tryz.f49 := by
  have h : Tryz.prog.funcs[49]? = some Tryz.f49 := by kernel_rfl
  exact h
theorem f42_at : gz.P.funcs[42]? = some Tryz.f42 := by
  have h : Tryz.prog.funcs[42]? = some Tryz.f42 := by kernel_rfl
  exact h
theorem f81_at : gz.P.funcs[81]? = some Tryz.f81 := by
  have h : Tryz.prog.funcs[81]? = some Tryz.f81 := by kernel_rfl
  exact h
theorem f51_at : gz.P.funcs[51]? = some Tryz.f51 := by
  have h : Tryz.prog.funcs[51]? = some Tryz.f51 := by kernel_rfl
  exact h
theorem f44_at : gz.P.funcs[44]? = some Tryz.f44 := by
  have h : Tryz.prog.funcs[44]? = some Tryz.f44 := by kernel_rfl
  exact h
theorem VCalls.mono {g : Sys} {f : FuncId} {as0 : List AVal} {m : Option Nat} {P Q : AVal → AVal → Prop} (h : VCalls g f as0 m P) (hp : ∀ y x, P y x → Q y x) : VCalls g f as0 m Q := fun w S o args a b c d =>
  (h w S o args a b c d).mono fun v w' ⟨y, x', S', o', h1, h2⟩ => ⟨y, x', S', o', hp _ _ h1, h2⟩
theorem at79 : gz.P.funcs[79]? = some Tryz.f79 := by
  have h : Tryz.prog.funcs[79]? = some Tryz.f79 := by kernel_rfl
  exact h
theorem ok15 (m : Mv) : VCalls gz 15 [m.enc] none (fun y _ => y = .lit (.bool m.ok)) := by
  refine VCalls.go (nt := 21) (keep := [0, 1, 2]) (muts := []) (mvs := []) [] f15_at rfl (by kernel_rfl) rfl (by kernel_rfl) rfl (fun i h => by cases h) rfl ?_
  intro hok
  simp only [go_sem] at hok
  simp only [Tryz.f15, Func.code, Option.getD_some]
  simp only [go_sem]
  have hY : (0 ≤ m.src ∧ m.src ≤ 7) → (0 ≤ m.dst ∧ m.dst ≤ 7) → (1 ≤ m.sum ∧ m.sum ≤ 1000000000) → m.ok = decide (0 ≤ m.cnt ∧ m.cnt ≤ 999999) := fun h1 h2 h3 => by simp only [Mv.ok, decide_eq_true h1, decide_eq_true h2, decide_eq_true h3, Bool.true_and]
  refine call_lend ?_
  simp only [go_sem]
  refine callN.eq (ok37 m.src 0 7) (by simp only [go_sem]) ?_
  simp only [go_sem]
  by_cases h1 : 0 ≤ m.src ∧ m.src ≤ 7
  rotate_left
  · have : m.ok = false := by simp only [Mv.ok, decide_eq_false h1, Bool.false_and]
    simp only [go_sem, eq_false h1, this]
  simp only [go_sem, eq_true h1]
  refine call_lend ?_
  simp only [go_sem]
  refine callN.eq (ok37 m.dst 0 7) (by simp only [go_sem]) ?_
  simp only [go_sem]
  by_cases h2 : 0 ≤ m.dst ∧ m.dst ≤ 7
  rotate_left
  · have : m.ok = false := by simp only [Mv.ok, decide_eq_false h2, Bool.false_and, Bool.and_false]
    simp only [go_sem, eq_false h2, this]
  simp only [go_sem, eq_true h2]
  refine call_lend ?_
  simp only [go_sem]
  refine callN.eq (ok37 m.sum 1 1000000000) (by simp only [go_sem]) ?_
  simp only [go_sem]
  by_cases h3 : 1 ≤ m.sum ∧ m.sum ≤ 1000000000
  rotate_left
  · have : m.ok = false := by simp only [Mv.ok, decide_eq_false h3, Bool.false_and, Bool.and_false]
    simp only [go_sem, eq_false h3, this]
  simp only [go_sem, eq_true h3]
  refine call_lend ?_
  simp only [go_sem]
  refine callN.eq (ok37 m.cnt 0 999999) (by simp only [go_sem]) ?_
  simp only [go_sem]
  rw [hY h1 h2 h3]
theorem ok49 (n : Int) : VCalls gz 49 [.lit (.int .i64 n)] none (fun y _ => y = .lit (.bool (decide (0 ≤ n ∧ n ≤ 7)))) := by
  refine VCalls.go (nt := 5) (keep := [0, 2]) (muts := []) (mvs := []) [] f49_at rfl (by kernel_rfl) rfl (by kernel_rfl) rfl (fun i h => by cases h) rfl ?_
  intro hok
  simp only [go_sem] at hok
  simp only [Tryz.f49, Func.code, Option.getD_some]
  simp only [go_sem]
  refine call_lend ?_
  simp only [go_sem]
  refine callN.eq (ok50 n 0 7) (by simp only [go_sem]) ?_
  simp only [go_sem]
theorem ok14 (m : Mv) : VCalls gz 14 [m.enc] none (fun y _ => y = .lit (.bool m.ok)) := by
  refine VCalls.go (nt := 21) (keep := [0, 1, 2]) (muts := []) (mvs := []) [] f14_at rfl (by kernel_rfl) rfl (by kernel_rfl) rfl (fun i h => by cases h) rfl ?_
  intro hok
  simp only [go_sem] at hok
  simp only [Tryz.f14, Func.code, Option.getD_some]
  simp only [go_sem]
  have hY : (0 ≤ m.src ∧ m.src ≤ 7) → (0 ≤ m.dst ∧ m.dst ≤ 7) → (1 ≤ m.sum ∧ m.sum ≤ 1000000000) → m.ok = decide (0 ≤ m.cnt ∧ m.cnt ≤ 999999) := fun h1 h2 h3 => by simp only [Mv.ok, decide_eq_true h1, decide_eq_true h2, decide_eq_true h3, Bool.true_and]
  refine call_lend ?_
  simp only [go_sem]
  refine callN.eq (ok49 m.src) (by simp only [go_sem]) ?_
  simp only [go_sem]
  by_cases h1 : 0 ≤ m.src ∧ m.src ≤ 7
  rotate_left
  · have : m.ok = false := by simp only [Mv.ok, decide_eq_false h1, Bool.false_and]
    simp only [go_sem, eq_false h1, this]
  simp only [go_sem, eq_true h1]
  refine call_lend ?_
  simp only [go_sem]
  refine callN.eq (ok49 m.dst) (by simp only [go_sem]) ?_
  simp only [go_sem]
  by_cases h2 : 0 ≤ m.dst ∧ m.dst ≤ 7
  rotate_left
  · have : m.ok = false := by simp only [Mv.ok, decide_eq_false h2, Bool.false_and, Bool.and_false]
    simp only [go_sem, eq_false h2, this]
  simp only [go_sem, eq_true h2]
  refine call_lend ?_
  simp only [go_sem]
  refine callN.eq (ok50 m.sum 1 1000000000) (by simp only [go_sem]) ?_
  simp only [go_sem]
  by_cases h3 : 1 ≤ m.sum ∧ m.sum ≤ 1000000000
  rotate_left
  · have : m.ok = false := by simp only [Mv.ok, decide_eq_false h3, Bool.false_and, Bool.and_false]
    simp only [go_sem, eq_false h3, this]
  simp only [go_sem, eq_true h3]
  refine call_lend ?_
  simp only [go_sem]
  refine callN.eq (ok50 m.cnt 0 999999) (by simp only [go_sem]) ?_
  simp only [go_sem]
  rw [hY h1 h2 h3]
theorem ok42 (m : Mv) : VCalls gz 42 [m.enc] none (fun y _ => y = .lit (.string m.sh)) := by
  refine VCalls.go (nt := 24) (keep := [0, 1, 2, 5]) (muts := []) (mvs := []) [(3, .tree true (.take 0 (.take 1 (.take 4 (.take 5 (.take 9 (.take 10 (.take 14 (.take 15 (.all (.cons 2 (.take 3 (.all (.cons 6 (.take 7 (.take 8 (.all (.cons 11 (.take 12 (.take 13 (.all (.cons 16 (.take 17 (.all (.cons 18 .done .nil))) .nil)))) .nil)))) .nil))) .nil)))))))))))] f42_at rfl (by kernel_rfl) rfl (by kernel_rfl) rfl (fun i h => by cases h) rfl ?_
  intro hok
  simp only [go_sem] at hok
  simp only [Tryz.f42, Func.code, Option.getD_some]
  simp only [go_sem]
  refine call_lend ?_
  simp only [go_sem]
  refine callN.eq (ok15 m) (by simp only [go_sem]) ?_
  simp only [go_sem]
  cases h : m.ok
  · have : m.sh = ⟨#[]⟩ := if_neg (by rw [h]; decide)
    simp only [go_sem, this]
  have e : m.sh = m.shB := if_pos h
  simp only [go_sem]
  obtain ⟨m1, m2, m3, m4⟩ := Mv.ok_iff.1 h
  have s1 := itoaB_size m.src (by omega)
  have s2 := itoaB_size m.dst (by omega)
  have s3 := itoaB_size m.sum (by omega)
  have s4 := itoaB_size m.cnt (by omega)
  have k1 : (#[(32 : UInt8)]).size = 1 := rfl
  refine call_lend ?_
  simp only [go_sem]
  refine callN.eq (ok78 m.src) (by simp only [go_sem]) ?_
  simp only [go_sem]
  refine ⟨by omega, ?_⟩
  refine call_lend ?_
  simp only [go_sem]
  refine callN.eq (ok78 m.dst) (by simp only [go_sem]) ?_
  simp only [go_sem]
  refine ⟨by omega, by omega, ?_⟩
  refine call_lend ?_
  simp only [go_sem]
  refine callN.eq (ok78 m.sum) (by simp only [go_sem]) ?_
  simp only [go_sem]
  refine ⟨by omega, by omega, ?_⟩
  refine call_lend ?_
  simp only [go_sem]
  refine callN.eq (ok78 m.cnt) (by simp only [go_sem]) ?_
  simp only [go_sem]
  refine ⟨by omega, ?_⟩
  rw [e, Mv.shB]
theorem ok81 (m : Mv) : VCalls gz 81 [m.enc] none (fun y _ => y = .lit (.string m.sh)) := by
  refine VCalls.go (nt := 24) (keep := [0, 1, 2, 5]) (muts := []) (mvs := []) [(3, .tree true (.take 0 (.take 1 (.take 4 (.take 5 (.take 9 (.take 10 (.take 14 (.take 15 (.all (.cons 2 (.take 3 (.all (.cons 6 (.take 7 (.take 8 (.all (.cons 11 (.take 12 (.take 13 (.all (.cons 16 (.take 17 (.all (.cons 18 .done .nil))) .nil)))) .nil)))) .nil))) .nil)))))))))))] f81_at rfl (by kernel_rfl) rfl (by kernel_rfl) rfl (fun i h => by cases h) rfl ?_
  intro hok
  simp only [go_sem] at hok
  simp only [Tryz.f81, Func.code, Option.getD_some]
  simp only [go_sem]
  refine call_lend ?_
  simp only [go_sem]
  refine callN.eq (ok14 m) (by simp only [go_sem]) ?_
  simp only [go_sem]
  cases h : m.ok
  · have : m.sh = ⟨#[]⟩ := if_neg (by rw [h]; decide)
    simp only [go_sem, this]
  have e : m.sh = m.shB := if_pos h
  simp only [go_sem]
  obtain ⟨m1, m2, m3, m4⟩ := Mv.ok_iff.1 h
  have s1 := itoaB_size m.src (by omega)
  have s2 := itoaB_size m.dst (by omega)
  have s3 := itoaB_size m.sum (by omega)
  have s4 := itoaB_size m.cnt (by omega)
  have k1 : (#[(32 : UInt8)]).size = 1 := rfl
  refine call_lend ?_
  simp only [go_sem]
  refine callN.eq (ok122 m.src) (by simp only [go_sem]) ?_
  simp only [go_sem]
  refine ⟨by omega, ?_⟩
  refine call_lend ?_
  simp only [go_sem]
  refine callN.eq (ok122 m.dst) (by simp only [go_sem]) ?_
  simp only [go_sem]
  refine ⟨by omega, by omega, ?_⟩
  refine call_lend ?_
  simp only [go_sem]
  refine callN.eq (ok122 m.sum) (by simp only [go_sem]) ?_
  simp only [go_sem]
  refine ⟨by omega, by omega, ?_⟩
  refine call_lend ?_
  simp only [go_sem]
  refine callN.eq (ok122 m.cnt) (by simp only [go_sem]) ?_
  simp only [go_sem]
  refine ⟨by omega, ?_⟩
  rw [e, Mv.shB]
theorem splitB_size (k : Nat) : ∀ (s : ByteArray), ∀ p ∈ Lib.splitB ⟨#[32]⟩ 0 k s, p.size ≤ s.size := by
  induction k with
  | zero =>
    intro s p hp
    rw [Lib.splitB_zero] at hp
    rw [List.mem_singleton.1 hp]
    exact Nat.le_refl _
  | succ k ih =>
    intro s p hp
    unfold Lib.splitB at hp
    split at hp
    · rw [List.mem_singleton.1 hp]
      exact Nat.le_refl _
    · rcases List.mem_cons.1 hp with rfl | hp
      · rw [ByteArray.size_extract]
        omega
      · have := ih _ p hp
        rw [ByteArray.size_extract] at this
        omega
theorem pcs_len (s : ByteArray) : 1 ≤ (pcs s).length ∧ (pcs s).length ≤ s.size + 1 := by
  have h1 := Lib.splitB_all ⟨#[32]⟩ (by decide) 0 _ s rfl
  have h2 := Lib.countB_le ⟨#[32]⟩ (by decide) s.size s (Nat.le_refl _)
  unfold pcs
  omega
theorem ok79 (s : ByteArray) (hs : s.size < 4294967281) : VCalls gz 79 [.lit (.string s), .lit (.string ⟨#[32]⟩)] none (fun y _ => y = .lst true 1 ((pcs s).map strA)) := by
  have hl := pcs_len s
  refine VCalls.of_texts (ss := pcs s) (enterC at79 (by kernel_rfl) (by kernel_rfl)) (by show _ ≤ 9223372036854775807; omega) (fun p hp => by have := splitB_size _ s p hp; show _ ≤ 9223372036854775807; omega) fun w S args hsz hg hS hrep => ?_
  obtain ⟨v0, v1, rfl⟩ : ∃ v0 v1, args = #[v0, v1] := by
    match args, hsz with
    | ⟨[v0, v1]⟩, _ => exact ⟨v0, v1, rfl⟩
  obtain ⟨rfl, h0⟩ := (hrep 0 v0 _ rfl rfl).lit
  obtain ⟨rfl, _⟩ := (hrep 1 v1 _ rfl rfl).lit
  obtain ⟨m, hm⟩ := hg.2.1
  refine (Tryz.strings_Split s ⟨#[32]⟩ m w hs hm (by decide)).mono ?_
  rintro e w' ⟨rfl, rfl⟩
  have hln : (pcs s).length = Lib.countB s ⟨#[32]⟩ + 1 := Lib.splitB_all ⟨#[32]⟩ (by decide) 0 _ s rfl
  rw [hln]
  exact ⟨rfl, _, rfl⟩
open Classical in
theorem okN80 (s : ByteArray) (hs : s.size ≤ 4000000) : VCalls gz 80 [.lit (.string s)] none (fun y _ => ∃ n b, y = .tup [.lit (.int .i64 n), .lit (.bool b)] ∧ isNum s n) := by
  by_cases hx : ∃ k : Nat, k < 10000000000 ∧ s = itoaB k
  · obtain ⟨k, hk, he⟩ := hx
    refine (ok80 s hs k (Nat.zero_le _) hk).mono fun y _ ⟨n, b, h1, h2⟩ => ⟨n, b, h1, fun k' hk' he' => ?_⟩
    have := itoaB_inj hk hk' (he.symm.trans he')
    subst this
    exact (h2 he).1
  · refine (ok80 s hs 0 (Nat.zero_le _) (by omega)).mono fun y _ ⟨n, b, h1, h2⟩ => ⟨n, b, h1, fun k' hk' he' => absurd ⟨k', hk', he'⟩ hx⟩
open Classical in
theorem okN85 (s : ByteArray) : VCalls gz 85 [.lit (.string s)] none (fun y _ => ∃ n b, y = .tup [.lit (.int .i64 n), .lit (.bool b)] ∧ isNum s n ∧ ∀ k : Nat, k < 10000000000 → s = itoaB k → b = true) := by
  by_cases hx : ∃ k : Nat, k < 10000000000 ∧ s = itoaB k
  · obtain ⟨k, hk, he⟩ := hx
    refine (ok85 s k).mono fun y _ ⟨n, b, h1, h2⟩ => ⟨n, b, h1, fun k' hk' he' => ?_, fun k' hk' he' => (h2 (he ▸ itoaB_num (Nat.zero_le _) hk)).2⟩
    have := itoaB_inj hk hk' (he.symm.trans he')
    subst this
    exact (h2 (he ▸ itoaB_num (Nat.zero_le _) hk)).1
  · refine (ok85 s 0).mono fun y _ ⟨n, b, h1, h2⟩ => ⟨n, b, h1, fun k' hk' he' => absurd ⟨k', hk', he'⟩ hx, fun k' hk' he' => absurd ⟨k', hk', he'⟩ hx⟩
theorem list_four {ns : List Int} (h : ns.length = 4) : ns = [ns.getD 0 default, ns.getD 1 default, ns.getD 2 default, ns.getD 3 default] := by
  match ns, h with
  | [a, b, c, d], _ => rfl
def mv0 : Mv := ⟨0, 0, 0, 0⟩
set_option maxHeartbeats 2000000 in
theorem ok44 (s : ByteArray) (hs : s.size ≤ 4000000) : VCalls gz 44 [.lit (.string s)] none (fun y _ => y = rdA (rdM s)) := by
  refine VCalls.go (nt := 55) (keep := [0, 2, 3, 4, 6, 7, 9, 12, 13, 14, 15, 30, 52]) (muts := []) (mvs := []) [(10, .tree false (.take 0 (.take 1 (.take 3 (.take 4 (.take 6 (.take 7 (.take 9 (.take 10 (.all (.cons 2 (.all (.cons 5 (.all (.cons 8 (.all (.cons 11 (.all (.cons 12 (.all (.cons 13 (.all (.cons 14 .done .nil)) .nil)) (.cons 13 (.all (.cons 12 (.all (.cons 14 .done .nil)) .nil)) .nil))) (.cons 13 (.all (.cons 11 (.all (.cons 12 (.all (.cons 14 .done .nil)) .nil)) .nil)) .nil))) (.cons 11 (.all (.cons 8 (.all (.cons 12 (.all (.cons 13 (.all (.cons 14 .done .nil)) .nil)) (.cons 13 (.all (.cons 12 (.all (.cons 14 .done .nil)) .nil)) .nil))) (.cons 13 (.all (.cons 8 (.all (.cons 12 (.all (.cons 14 .done .nil)) .nil)) .nil)) .nil))) (.cons 13 (.all (.cons 8 (.all (.cons 11 (.all (.cons 12 (.all (.cons 14 .done .nil)) .nil)) .nil)) (.cons 11 (.all (.cons 8 (.all (.cons 12 (.all (.cons 14 .done .nil)) .nil)) .nil)) .nil))) .nil)))) (.cons 8 (.all (.cons 5 (.all (.cons 11 (.all (.cons 12 (.all (.cons 13 (.all (.cons 14 .done .nil)) .nil)) (.cons 13 (.all (.cons 12 (.all (.cons 14 .done .nil)) .nil)) .nil))) (.cons 13 (.all (.cons 11 (.all (.cons 12 (.all (.cons 14 .done .nil)) .nil)) .nil)) .nil))) (.cons 11 (.all (.cons 5 (.all (.cons 12 (.all (.cons 13 (.all (.cons 14 .done .nil)) .nil)) (.cons 13 (.all (.cons 12 (.all (.cons 14 .done .nil)) .nil)) .nil))) (.cons 13 (.all (.cons 5 (.all (.cons 12 (.all (.cons 14 .done .nil)) .nil)) .nil)) .nil))) (.cons 13 (.all (.cons 5 (.all (.cons 11 (.all (.cons 12 (.all (.cons 14 .done .nil)) .nil)) .nil)) (.cons 11 (.all (.cons 5 (.all (.cons 12 (.all (.cons 14 .done .nil)) .nil)) .nil)) .nil))) .nil)))) (.cons 11 (.all (.cons 5 (.all (.cons 8 (.all (.cons 12 (.all (.cons 13 (.all (.cons 14 .done .nil)) .nil)) (.cons 13 (.all (.cons 12 (.all (.cons 14 .done .nil)) .nil)) .nil))) (.cons 13 (.all (.cons 8 (.all (.cons 12 (.all (.cons 14 .done .nil)) .nil)) .nil)) .nil))) (.cons 8 (.all (.cons 5 (.all (.cons 12 (.all (.cons 13 (.all (.cons 14 .done .nil)) .nil)) (.cons 13 (.all (.cons 12 (.all (.cons 14 .done .nil)) .nil)) .nil))) (.cons 13 (.all (.cons 5 (.all (.cons 12 (.all (.cons 14 .done .nil)) .nil)) .nil)) .nil))) (.cons 13 (.all (.cons 5 (.all (.cons 8 (.all (.cons 12 (.all (.cons 14 .done .nil)) .nil)) .nil)) (.cons 8 (.all (.cons 5 (.all (.cons 12 (.all (.cons 14 .done .nil)) .nil)) .nil)) .nil))) .nil)))) (.cons 13 (.all (.cons 5 (.all (.cons 8 (.all (.cons 11 (.all (.cons 12 (.all (.cons 14 .done .nil)) .nil)) .nil)) (.cons 11 (.all (.cons 8 (.all (.cons 12 (.all (.cons 14 .done .nil)) .nil)) .nil)) .nil))) (.cons 8 (.all (.cons 5 (.all (.cons 11 (.all (.cons 12 (.all (.cons 14 .done .nil)) .nil)) .nil)) (.cons 11 (.all (.cons 5 (.all (.cons 12 (.all (.cons 14 .done .nil)) .nil)) .nil)) .nil))) (.cons 11 (.all (.cons 5 (.all (.cons 8 (.all (.cons 12 (.all (.cons 14 .done .nil)) .nil)) .nil)) (.cons 8 (.all (.cons 5 (.all (.cons 12 (.all (.cons 14 .done .nil)) .nil)) .nil)) .nil))) .nil)))) .nil))))) (.cons 5 (.all (.cons 2 (.all (.cons 8 (.all (.cons 11 (.all (.cons 12 (.all (.cons 13 (.all (.cons 14 .done .nil)) .nil)) (.cons 13 (.all (.cons 12 (.all (.cons 14 .done .nil)) .nil)) .nil))) (.cons 13 (.all (.cons 11 (.all (.cons 12 (.all (.cons 14 .done .nil)) .nil)) .nil)) .nil))) (.cons 11 (.all (.cons 8 (.all (.cons 12 (.all (.cons 13 (.all (.cons 14 .done .nil)) .nil)) (.cons 13 (.all (.cons 12 (.all (.cons 14 .done .nil)) .nil)) .nil))) (.cons 13 (.all (.cons 8 (.all (.cons 12 (.all (.cons 14 .done .nil)) .nil)) .nil)) .nil))) (.cons 13 (.all (.cons 8 (.all (.cons 11 (.all (.cons 12 (.all (.cons 14 .done .nil)) .nil)) .nil)) (.cons 11 (.all (.cons 8 (.all (.cons 12 (.all (.cons 14 .done .nil)) .nil)) .nil)) .nil))) .nil)))) (.cons 8 (.all (.cons 2 (.all (.cons 11 (.all (.cons 12 (.all (.cons 13 (.all (.cons 14 .done .nil)) .nil)) (.cons 13 (.all (.cons 12 (.all (.cons 14 .done .nil)) .nil)) .nil))) (.cons 13 (.all (.cons 11 (.all (.cons 12 (.all (.cons 14 .done .nil)) .nil)) .nil)) .nil))) (.cons 11 (.all (.cons 2 (.all (.cons 12 (.all (.cons 13 (.all (.cons 14 .done .nil)) .nil)) (.cons 13 (.all (.cons 12 (.all (.cons 14 .done .nil)) .nil)) .nil))) (.cons 13 (.all (.cons 2 (.all (.cons 12 (.all (.cons 14 .done .nil)) .nil)) .nil)) .nil))) (.cons 13 (.all (.cons 2 (.all (.cons 11 (.all (.cons 12 (.all (.cons 14 .done .nil)) .nil)) .nil)) (.cons 11 (.all (.cons 2 (.all (.cons 12 (.all (.cons 14 .done .nil)) .nil)) .nil)) .nil))) .nil)))) (.cons 11 (.all (.cons 2 (.all (.cons 8 (.all (.cons 12 (.all (.cons 13 (.all (.cons 14 .done .nil)) .nil)) (.cons 13 (.all (.cons 12 (.all (.cons 14 .done .nil)) .nil)) .nil))) (.cons 13 (.all (.cons 8 (.all (.cons 12 (.all (.cons 14 .done .nil)) .nil)) .nil)) .nil))) (.cons 8 (.all (.cons 2 (.all (.cons 12 (.all (.cons 13 (.all (.cons 14 .done .nil)) .nil)) (.cons 13 (.all (.cons 12 (.all (.cons 14 .done .nil)) .nil)) .nil))) (.cons 13 (.all (.cons 2 (.all (.cons 12 (.all (.cons 14 .done .nil)) .nil)) .nil)) .nil))) (.cons 13 (.all (.cons 2 (.all (.cons 8 (.all (.cons 12 (.all (.cons 14 .done .nil)) .nil)) .nil)) (.cons 8 (.all (.cons 2 (.all (.cons 12 (.all (.cons 14 .done .nil)) .nil)) .nil)) .nil))) .nil)))) (.cons 13 (.all (.cons 2 (.all (.cons 8 (.all (.cons 11 (.all (.cons 12 (.all (.cons 14 .done .nil)) .nil)) .nil)) (.cons 11 (.all (.cons 8 (.all (.cons 12 (.all (.cons 14 .done .nil)) .nil)) .nil)) .nil))) (.cons 8 (.all (.cons 2 (.all (.cons 11 (.all (.cons 12 (.all (.cons 14 .done .nil)) .nil)) .nil)) (.cons 11 (.all (.cons 2 (.all (.cons 12 (.all (.cons 14 .done .nil)) .nil)) .nil)) .nil))) (.cons 11 (.all (.cons 2 (.all (.cons 8 (.all (.cons 12 (.all (.cons 14 .done .nil)) .nil)) .nil)) (.cons 8 (.all (.cons 2 (.all (.cons 12 (.all (.cons 14 .done .nil)) .nil)) .nil)) .nil))) .nil)))) .nil))))) (.cons 8 (.all (.cons 2 (.all (.cons 5 (.all (.cons 11 (.all (.cons 12 (.all (.cons 13 (.all (.cons 14 .done .nil)) .nil)) (.cons 13 (.all (.cons 12 (.all (.cons 14 .done .nil)) .nil)) .nil))) (.cons 13 (.all (.cons 11 (.all (.cons 12 (.all (.cons 14 .done .nil)) .nil)) .nil)) .nil))) (.cons 11 (.all (.cons 5 (.all (.cons 12 (.all (.cons 13 (.all (.cons 14 .done .nil)) .nil)) (.cons 13 (.all (.cons 12 (.all (.cons 14 .done .nil)) .nil)) .nil))) (.cons 13 (.all (.cons 5 (.all (.cons 12 (.all (.cons 14 .done .nil)) .nil)) .nil)) .nil))) (.cons 13 (.all (.cons 5 (.all (.cons 11 (.all (.cons 12 (.all (.cons 14 .done .nil)) .nil)) .nil)) (.cons 11 (.all (.cons 5 (.all (.cons 12 (.all (.cons 14 .done .nil)) .nil)) .nil)) .nil))) .nil)))) (.cons 5 (.all (.cons 2 (.all (.cons 11 (.all (.cons 12 (.all (.cons 13 (.all (.cons 14 .done .nil)) .nil)) (.cons 13 (.all (.cons 12 (.all (.cons 14 .done .nil)) .nil)) .nil))) (.cons 13 (.all (.cons 11 (.all (.cons 12 (.all (.cons 14 .done .nil)) .nil)) .nil)) .nil))) (.cons 11 (.all (.cons 2 (.all (.cons 12 (.all (.cons 13 (.all (.cons 14 .done .nil)) .nil)) (.cons 13 (.all (.cons 12 (.all (.cons 14 .done .nil)) .nil)) .nil))) (.cons 13 (.all (.cons 2 (.all (.cons 12 (.all (.cons 14 .done .nil)) .nil)) .nil)) .nil))) (.cons 13 (.all (.cons 2 (.all (.cons 11 (.all (.cons 12 (.all (.cons 14 .done .nil)) .nil)) .nil)) (.cons 11 (.all (.cons 2 (.all (.cons 12 (.all (.cons 14 .done .nil)) .nil)) .nil)) .nil))) .nil)))) (.cons 11 (.all (.cons 2 (.all (.cons 5 (.all (.cons 12 (.all (.cons 13 (.all (.cons 14 .done .nil)) .nil)) (.cons 13 (.all (.cons 12 (.all (.cons 14 .done .nil)) .nil)) .nil))) (.cons 13 (.all (.cons 5 (.all (.cons 12 (.all (.cons 14 .done .nil)) .nil)) .nil)) .nil))) (.cons 5 (.all (.cons 2 (.all (.cons 12 (.all (.cons 13 (.all (.cons 14 .done .nil)) .nil)) (.cons 13 (.all (.cons 12 (.all (.cons 14 .done .nil)) .nil)) .nil))) (.cons 13 (.all (.cons 2 (.all (.cons 12 (.all (.cons 14 .done .nil)) .nil)) .nil)) .nil))) (.cons 13 (.all (.cons 2 (.all (.cons 5 (.all (.cons 12 (.all (.cons 14 .done .nil)) .nil)) .nil)) (.cons 5 (.all (.cons 2 (.all (.cons 12 (.all (.cons 14 .done .nil)) .nil)) .nil)) .nil))) .nil)))) (.cons 13 (.all (.cons 2 (.all (.cons 5 (.all (.cons 11 (.all (.cons 12 (.all (.cons 14 .done .nil)) .nil)) .nil)) (.cons 11 (.all (.cons 5 (.all (.cons 12 (.all (.cons 14 .done .nil)) .nil)) .nil)) .nil))) (.cons 5 (.all (.cons 2 (.all (.cons 11 (.all (.cons 12 (.all (.cons 14 .done .nil)) .nil)) .nil)) (.cons 11 (.all (.cons 2 (.all (.cons 12 (.all (.cons 14 .done .nil)) .nil)) .nil)) .nil))) (.cons 11 (.all (.cons 2 (.all (.cons 5 (.all (.cons 12 (.all (.cons 14 .done .nil)) .nil)) .nil)) (.cons 5 (.all (.cons 2 (.all (.cons 12 (.all (.cons 14 .done .nil)) .nil)) .nil)) .nil))) .nil)))) .nil))))) (.cons 11 (.all (.cons 2 (.all (.cons 5 (.all (.cons 8 (.all (.cons 12 (.all (.cons 13 (.all (.cons 14 .done .nil)) .nil)) (.cons 13 (.all (.cons 12 (.all (.cons 14 .done .nil)) .nil)) .nil))) (.cons 13 (.all (.cons 8 (.all (.cons 12 (.all (.cons 14 .done .nil)) .nil)) .nil)) .nil))) (.cons 8 (.all (.cons 5 (.all (.cons 12 (.all (.cons 13 (.all (.cons 14 .done .nil)) .nil)) (.cons 13 (.all (.cons 12 (.all (.cons 14 .done .nil)) .nil)) .nil))) (.cons 13 (.all (.cons 5 (.all (.cons 12 (.all (.cons 14 .done .nil)) .nil)) .nil)) .nil))) (.cons 13 (.all (.cons 5 (.all (.cons 8 (.all (.cons 12 (.all (.cons 14 .done .nil)) .nil)) .nil)) (.cons 8 (.all (.cons 5 (.all (.cons 12 (.all (.cons 14 .done .nil)) .nil)) .nil)) .nil))) .nil)))) (.cons 5 (.all (.cons 2 (.all (.cons 8 (.all (.cons 12 (.all (.cons 13 (.all (.cons 14 .done .nil)) .nil)) (.cons 13 (.all (.cons 12 (.all (.cons 14 .done .nil)) .nil)) .nil))) (.cons 13 (.all (.cons 8 (.all (.cons 12 (.all (.cons 14 .done .nil)) .nil)) .nil)) .nil))) (.cons 8 (.all (.cons 2 (.all (.cons 12 (.all (.cons 13 (.all (.cons 14 .done .nil)) .nil)) (.cons 13 (.all (.cons 12 (.all (.cons 14 .done .nil)) .nil)) .nil))) (.cons 13 (.all (.cons 2 (.all (.cons 12 (.all (.cons 14 .done .nil)) .nil)) .nil)) .nil))) (.cons 13 (.all (.cons 2 (.all (.cons 8 (.all (.cons 12 (.all (.cons 14 .done .nil)) .nil)) .nil)) (.cons 8 (.all (.cons 2 (.all (.cons 12 (.all (.cons 14 .done .nil)) .nil)) .nil)) .nil))) .nil)))) (.cons 8 (.all (.cons 2 (.all (.cons 5 (.all (.cons 12 (.all (.cons 13 (.all (.cons 14 .done .nil)) .nil)) (.cons 13 (.all (.cons 12 (.all (.cons 14 .done .nil)) .nil)) .nil))) (.cons 13 (.all (.cons 5 (.all (.cons 12 (.all (.cons 14 .done .nil)) .nil)) .nil)) .nil))) (.cons 5 (.all (.cons 2 (.all (.cons 12 (.all (.cons 13 (.all (.cons 14 .done .nil)) .nil)) (.cons 13 (.all (.cons 12 (.all (.cons 14 .done .nil)) .nil)) .nil))) (.cons 13 (.all (.cons 2 (.all (.cons 12 (.all (.cons 14 .done .nil)) .nil)) .nil)) .nil))) (.cons 13 (.all (.cons 2 (.all (.cons 5 (.all (.cons 12 (.all (.cons 14 .done .nil)) .nil)) .nil)) (.cons 5 (.all (.cons 2 (.all (.cons 12 (.all (.cons 14 .done .nil)) .nil)) .nil)) .nil))) .nil)))) (.cons 13 (.all (.cons 2 (.all (.cons 5 (.all (.cons 8 (.all (.cons 12 (.all (.cons 14 .done .nil)) .nil)) .nil)) (.cons 8 (.all (.cons 5 (.all (.cons 12 (.all (.cons 14 .done .nil)) .nil)) .nil)) .nil))) (.cons 5 (.all (.cons 2 (.all (.cons 8 (.all (.cons 12 (.all (.cons 14 .done .nil)) .nil)) .nil)) (.cons 8 (.all (.cons 2 (.all (.cons 12 (.all (.cons 14 .done .nil)) .nil)) .nil)) .nil))) (.cons 8 (.all (.cons 2 (.all (.cons 5 (.all (.cons 12 (.all (.cons 14 .done .nil)) .nil)) .nil)) (.cons 5 (.all (.cons 2 (.all (.cons 12 (.all (.cons 14 .done .nil)) .nil)) .nil)) .nil))) .nil)))) .nil))))) (.cons 13 (.all (.cons 2 (.all (.cons 5 (.all (.cons 8 (.all (.cons 11 (.all (.cons 12 (.all (.cons 14 .done .nil)) .nil)) .nil)) (.cons 11 (.all (.cons 8 (.all (.cons 12 (.all (.cons 14 .done .nil)) .nil)) .nil)) .nil))) (.cons 8 (.all (.cons 5 (.all (.cons 11 (.all (.cons 12 (.all (.cons 14 .done .nil)) .nil)) .nil)) (.cons 11 (.all (.cons 5 (.all (.cons 12 (.all (.cons 14 .done .nil)) .nil)) .nil)) .nil))) (.cons 11 (.all (.cons 5 (.all (.cons 8 (.all (.cons 12 (.all (.cons 14 .done .nil)) .nil)) .nil)) (.cons 8 (.all (.cons 5 (.all (.cons 12 (.all (.cons 14 .done .nil)) .nil)) .nil)) .nil))) .nil)))) (.cons 5 (.all (.cons 2 (.all (.cons 8 (.all (.cons 11 (.all (.cons 12 (.all (.cons 14 .done .nil)) .nil)) .nil)) (.cons 11 (.all (.cons 8 (.all (.cons 12 (.all (.cons 14 .done .nil)) .nil)) .nil)) .nil))) (.cons 8 (.all (.cons 2 (.all (.cons 11 (.all (.cons 12 (.all (.cons 14 .done .nil)) .nil)) .nil)) (.cons 11 (.all (.cons 2 (.all (.cons 12 (.all (.cons 14 .done .nil)) .nil)) .nil)) .nil))) (.cons 11 (.all (.cons 2 (.all (.cons 8 (.all (.cons 12 (.all (.cons 14 .done .nil)) .nil)) .nil)) (.cons 8 (.all (.cons 2 (.all (.cons 12 (.all (.cons 14 .done .nil)) .nil)) .nil)) .nil))) .nil)))) (.cons 8 (.all (.cons 2 (.all (.cons 5 (.all (.cons 11 (.all (.cons 12 (.all (.cons 14 .done .nil)) .nil)) .nil)) (.cons 11 (.all (.cons 5 (.all (.cons 12 (.all (.cons 14 .done .nil)) .nil)) .nil)) .nil))) (.cons 5 (.all (.cons 2 (.all (.cons 11 (.all (.cons 12 (.all (.cons 14 .done .nil)) .nil)) .nil)) (.cons 11 (.all (.cons 2 (.all (.cons 12 (.all (.cons 14 .done .nil)) .nil)) .nil)) .nil))) (.cons 11 (.all (.cons 2 (.all (.cons 5 (.all (.cons 12 (.all (.cons 14 .done .nil)) .nil)) .nil)) (.cons 5 (.all (.cons 2 (.all (.cons 12 (.all (.cons 14 .done .nil)) .nil)) .nil)) .nil))) .nil)))) (.cons 11 (.all (.cons 2 (.all (.cons 5 (.all (.cons 8 (.all (.cons 12 (.all (.cons 14 .done .nil)) .nil)) .nil)) (.cons 8 (.all (.cons 5 (.all (.cons 12 (.all (.cons 14 .done .nil)) .nil)) .nil)) .nil))) (.cons 5 (.all (.cons 2 (.all (.cons 8 (.all (.cons 12 (.all (.cons 14 .done .nil)) .nil)) .nil)) (.cons 8 (.all (.cons 2 (.all (.cons 12 (.all (.cons 14 .done .nil)) .nil)) .nil)) .nil))) (.cons 8 (.all (.cons 2 (.all (.cons 5 (.all (.cons 12 (.all (.cons 14 .done .nil)) .nil)) .nil)) (.cons 5 (.all (.cons 2 (.all (.cons 12 (.all (.cons 14 .done .nil)) .nil)) .nil)) .nil))) .nil)))) .nil))))) .nil)))))))))))))))] f44_at rfl (by kernel_rfl) rfl (by kernel_rfl) rfl (fun i h => by cases h) rfl ?_
  intro hok
  simp only [go_sem] at hok
  simp only [Tryz.f44, Func.code, Option.getD_some]
  simp only [go_sem]
  refine call_lend ?_
  simp only [go_sem]
  refine callN.eq (ok79 s (by omega)) (by simp only [go_sem]) ?_
  simp only [go_sem]
  intro hm
  have hw : ∀ m : Mv, m.ok = true → m.sh = s → pcs s = [itoaB m.src, itoaB m.dst, itoaB m.sum, itoaB m.cnt] := fun m h e => by rw [← e]; exact Mv.sh_pcs h
  refine vm_loopK (α := Nat × List Int) (fun q => [(0, .lit (.string s)), (2, .ptr true mv0.enc), (3, .lit (.bool false)), (4, .lst true 1 (q.2.map intA)), (12, .lst true 1 ((pcs s).map strA)), (13, .lit (.int .i64 (pcs s).length)), (14, .lit (.int .i64 q.1))]) (fun q => (q.1 ≤ (pcs s).length ∧ q.2.length = q.1) ∧ areN (pcs s) q.2) (fun q => (pcs s).length - q.1) (0, []) ?_ ⟨⟨by simp, rfl⟩, areN.nil⟩ (by kernel_rfl) (fun _ => rfl) ?_
  · simp only [go_sem]
    exact ⟨⟨rfl, rfl, rfl, rfl⟩, rfl⟩
  · rintro ⟨i, ns⟩ ⟨⟨hi, hl⟩, hn⟩ hk
    simp only at hi hl hn
    simp only [go_sem]
    first | refine branch_ndec (fun h6 => ?_) (fun h6 => ?_) | refine branch_dec (fun h6 => ?_) (fun h6 => ?_) | refine branch_nbool (fun h6 => ?_) (fun h6 => ?_) | refine branch_split (fun h6 => ?_) (fun h6 => ?_)
    · have hlt : i < (pcs s).length := by omega
      have h0 : (0 : Int) ≤ (i : Int) := by omega
      have hpl := pcs_len s
      have hw3 : IntKind.i64.wrap ((i : Int) + 1) = ((i + 1 : Nat) : Int) := by rw [wrap64 (by omega) (by omega)]; omega
      have hps : ((pcs s).getD i default).size ≤ 4000000 := by
        have h9 := splitB_size _ s _ (getD_mem hlt)
        have h10 : ((pcs s).getD i default).size ≤ s.size := h9
        omega
      simp only [go_sem, h0, hlt, h6]
      refine call_lend ?_
      simp only [go_sem]
      refine callN.use (okN80 ((pcs s).getD i default) hps) ?_
      rintro _ _ ⟨n, b, rfl, hnn⟩
      refine ⟨by simp only [go_sem], ?_⟩
      simp only [go_sem]
      refine ⟨by omega, ?_⟩
      rw [hw3]
      refine again_intro (i + 1, ns ++ [n]) ⟨⟨by simp only; omega, by simp only [List.length_append, List.length_cons, List.length_nil]; omega⟩, areN.app hn (by rw [hl]; exact hnn)⟩ (by simp only; omega) ?_
      simp only [go_sem]
      try exact ⟨rfl, rfl⟩
    · have hie : i = (pcs s).length := by omega
      subst hie
      simp only [go_sem]
      intro _
      by_cases h4 : (ns.length : Int) = 4
      rotate_left
      · have : rdM s = none := rdM_len hw (by omega)
        rw [this]
        simp only [go_sem, h4]
        rfl
      have l0 : (0 : Int) < (ns.length : Int) := by omega
      have l1 : (1 : Int) < (ns.length : Int) := by omega
      have l2 : (2 : Int) < (ns.length : Int) := by omega
      have l3 : (3 : Int) < (ns.length : Int) := by omega
      have n0 : 0 < ns.length := by omega
      have n1 : 1 < ns.length := by omega
      have n2 : 2 < ns.length := by omega
      have n3 : 3 < ns.length := by omega
      simp only [go_sem, eq_true h4, l0, l1, l2, l3, n0, n1, n2, n3]
      have hns : ns = [ns.getD 0 default, ns.getD 1 default, ns.getD 2 default, ns.getD 3 default] := list_four (by omega)
      have hend := rdM_end hw hn hns
      by_cases hs0 : s = ⟨#[]⟩
      · have : rdM s = none := by rw [hs0]; exact rdM_nil
        rw [this]
        simp only [go_sem, eq_true hs0]
        rfl
      simp only [go_sem, hs0]
      refine call_lend ?_
      simp only [go_sem]
      refine callN.eq (ok81 ⟨ns.getD 0 default, ns.getD 1 default, ns.getD 2 default, ns.getD 3 default⟩) (by simp only [go_sem]) ?_
      simp only [go_sem]
      by_cases g : (⟨ns.getD 0 default, ns.getD 1 default, ns.getD 2 default, ns.getD 3 default⟩ : Mv).sh = s
      · rw [hend.1 g hs0]
        simp only [go_sem, eq_true g]
        rfl
      · rw [hend.2 g]
        simp only [go_sem, g]
        rfl
end Go.VS
