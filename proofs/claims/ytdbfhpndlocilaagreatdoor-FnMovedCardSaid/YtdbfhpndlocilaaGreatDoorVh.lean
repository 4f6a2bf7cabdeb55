/- VS: functions by the machine. -/
import Derived.Test.YtdbfhpndlocilaaGreatDoorVg
set_option linter.unusedSimpArgs false
set_option linter.unusedVariables false
open Go.Proofs Go.RowKit
set_option maxRecDepth 20000
namespace Go.VS
theorem rdM_word {s : ByteArray} {ws : List ByteArray} (hw : ∀ m : Mv, m.ok = true → m.sh = s → ws = [itoaB m.src, itoaB m.dst, itoaB m.sum, itoaB m.cnt]) {i : Nat} (hi : i < ws.length) (h : ∀ k : Nat, k < 10000000000 → ws.getD i default = itoaB k → False) : rdM s = none := rdM_no fun m hm e => by
  have h2 := hw m hm e
  obtain ⟨a1, a2, a3, a4⟩ := Mv.ok_iff.1 hm
  have key : ∀ x : Int, 0 ≤ x → x < 10000000000 → ws.getD i default = itoaB x → False := fun x hx hx2 he => by
    obtain ⟨k, rfl⟩ := Int.eq_ofNat_of_zero_le hx
    exact h k (by omega) he
  rw [h2] at hi key
  match i, hi with
  | 0, _ => exact key m.src a1.1 (by omega) rfl
  | 1, _ => exact key m.dst a2.1 (by omega) rfl
  | 2, _ => exact key m.sum (by omega) (by omega) rfl
  | 3, _ => exact key m.cnt a4.1 (by omega) rfl
set_option maxHeartbeats 2000000 in
theorem ok51 (s : ByteArray) (hs : s.size ≤ 4000000) : VCalls gz 51 [.lit (.string s)] none (fun y _ => y = rdA (rdM s)) := by
  refine VCalls.go (nt := 57) (keep := [0, 2, 3, 4, 5, 6, 7, 8, 9, 16, 28, 36, 54]) (muts := []) (mvs := []) [(12, .tree false (.take 0 (.take 1 (.take 3 (.take 4 (.take 6 (.take 7 (.take 9 (.take 10 (.all (.cons 2 (.all (.cons 5 (.all (.cons 8 (.all (.cons 11 (.all (.cons 12 (.all (.cons 13 (.all (.cons 14 .done .nil)) .nil)) (.cons 13 (.all (.cons 12 (.all (.cons 14 .done .nil)) .nil)) .nil))) (.cons 13 (.all (.cons 11 (.all (.cons 12 (.all (.cons 14 .done .nil)) .nil)) .nil)) .nil))) (.cons 11 (.all (.cons 8 (.all (.cons 12 (.all (.cons 13 (.all (.cons 14 .done .nil)) .nil)) (.cons 13 (.all (.cons 12 (.all (.cons 14 .done .nil)) .nil)) .nil))) (.cons 13 (.all (.cons 8 (.all (.cons 12 (.all (.cons 14 .done .nil)) .nil)) .nil)) .nil))) (.cons 13 (.all (.cons 8 (.all (.cons 11 (.all (.cons 12 (.all (.cons 14 .done .nil)) .nil)) .nil)) (.cons 11 (.all (.cons 8 (.all (.cons 12 (.all (.cons 14 .done .nil)) .nil)) .nil)) .nil))) .nil)))) (.cons 8 (.all (.cons 5 (.all (.cons 11 (.all (.cons 12 (.all (.cons 13 (.all (.cons 14 .done .nil)) .nil)) (.cons 13 (.all (.cons 12 (.all (.cons 14 .done .nil)) .nil)) .nil))) (.cons 13 (.all (.cons 11 (.all (.cons 12 (.all (.cons 14 .done .nil)) .nil)) .nil)) .nil))) (.cons 11 (.all (.cons 5 (.all (.cons 12 (.all (.cons 13 (.all (.cons 14 .done .nil)) .nil)) (.cons 13 (.all (.cons 12 (.all (.cons 14 .done .nil)) .nil)) .nil))) (.cons 13 (.all (.cons 5 (.all (.cons 12 (.all (.cons 14 .done .nil)) .nil)) .nil)) .nil))) (.cons 13 (.all (.cons 5 (.all (.cons 11 (.all (.cons 12 (.all (.cons 14 .done .nil)) .nil)) .nil)) (.cons 11 (.all (.cons 5 (.all (.cons 12 (.all (.cons 14 .done .nil)) .nil)) .nil)) .nil))) .nil)))) (.cons 11 (.all (.cons 5 (.all (.cons 8 (.all (.cons 12 (.all (.cons 13 (.all (.cons 14 .done .nil)) .nil)) (.cons 13 (.all (.cons 12 (.all (.cons 14 .done .nil)) .nil)) .nil))) (.cons 13 (.all (.cons 8 (.all (.cons 12 (.all (.cons 14 .done .nil)) .nil)) .nil)) .nil))) (.cons 8 (.all (.cons 5 (.all (.cons 12 (.all (.cons 13 (.all (.cons 14 .done .nil)) .nil)) (.cons 13 (.all (.cons 12 (.all (.cons 14 .done .nil)) .nil)) .nil))) (.cons 13 (.all (.cons 5 (.all (.cons 12 (.all (.cons 14 .done .nil)) .nil)) .nil)) .nil))) (.cons 13 (.all (.cons 5 (.all (.cons 8 (.all (.cons 12 (.all (.cons 14 .done .nil)) .nil)) .nil)) (.cons 8 (.all (.cons 5 (.all (.cons 12 (.all (.cons 14 .done .nil)) .nil)) .nil)) .nil))) .nil)))) (.cons 13 (.all (.cons 5 (.all (.cons 8 (.all (.cons 11 (.all (.cons 12 (.all (.cons 14 .done .nil)) .nil)) .nil)) (.cons 11 (.all (.cons 8 (.all (.cons 12 (.all (.cons 14 .done .nil)) .nil)) .nil)) .nil))) (.cons 8 (.all (.cons 5 (.all (.cons 11 (.all (.cons 12 (.all (.cons 14 .done .nil)) .nil)) .nil)) (.cons 11 (.all (.cons 5 (.all (.cons 12 (.all (.cons 14 .done .nil)) .nil)) .nil)) .nil))) (.cons 11 (.all (.cons 5 (.all (.cons 8 (.all (.cons 12 (.all (.cons 14 .done .nil)) .nil)) .nil)) (.cons 8 (.all (.cons 5 (.all (.cons 12 (.all (.cons 14 .done .nil)) .nil)) .nil)) .nil))) .nil)))) .nil))))) (.cons 5 (.all (.cons 2 (.all (.cons 8 (.all (.cons 11 (.all (.cons 12 (.all (.cons 13 (.all (.cons 14 .done .nil)) .nil)) (.cons 13 (.all (.cons 12 (.all (.cons 14 .done .nil)) .nil)) .nil))) (.cons 13 (.all (.cons 11 (.all (.cons 12 (.all (.cons 14 .done .nil)) .nil)) .nil)) .nil))) (.cons 11 (.all (.cons 8 (.all (.cons 12 (.all (.cons 13 (.all (.cons 14 .done .nil)) .nil)) (.cons 13 (.all (.cons 12 (.all (.cons 14 .done .nil)) .nil)) .nil))) (.cons 13 (.all (.cons 8 (.all (.cons 12 (.all (.cons 14 .done .nil)) .nil)) .nil)) .nil))) (.cons 13 (.all (.cons 8 (.all (.cons 11 (.all (.cons 12 (.all (.cons 14 .done .nil)) .nil)) .nil)) (.cons 11 (.all (.cons 8 (.all (.cons 12 (.all (.cons 14 .done .nil)) .nil)) .nil)) .nil))) .nil)))) (.cons 8 (.all (.cons 2 (.all (.cons 11 (.all (.cons 12 (.all (.cons 13 (.all (.cons 14 .done .nil)) .nil)) (.cons 13 (.all (.cons 12 (.all (.cons 14 .done .nil)) .nil)) .nil))) (.cons 13 (.all (.cons 11 (.all (.cons 12 (.all (.cons 14 .done .nil)) .nil)) .nil)) .nil))) (.cons 11 (.all (.cons 2 (.all (.cons 12 (.all (.cons 13 (.all (.cons 14 .done .nil)) .nil)) (.cons 13 (.all (.cons 12 (.all (.cons 14 .done .nil)) .nil)) .nil))) (.cons 13 (.all (.cons 2 (.all (.cons 12 (.all (.cons 14 .done .nil)) .nil)) .nil)) .nil))) (.cons 13 (.all (.cons 2 (.all (.cons 11 (.all (.cons 12 (.all (.cons 14 .done .nil)) .nil)) .nil)) (.cons 11 (.all (.cons 2 (.all (.cons 12 (.all (.cons 14 .done .nil)) .nil)) .nil)) .nil))) .nil)))) (.cons 11 (.all (.cons 2 (.all (.cons 8 (.all (.cons 12 (.all (.cons 13 (.all (.cons 14 .done .nil)) .nil)) (.cons 13 (.all (.cons 12 (.all (.cons 14 .done .nil)) .nil)) .nil))) (.cons 13 (.all (.cons 8 (.all (.cons 12 (.all (.cons 14 .done .nil)) .nil)) .nil)) .nil))) (.cons 8 (.all (.cons 2 (.all (.cons 12 (.all (.cons 13 (.all (.cons 14 .done .nil)) .nil)) (.cons 13 (.all (.cons 12 (.all (.cons 14 .done .nil)) .nil)) .nil))) (.cons 13 (.all (.cons 2 (.all (.cons 12 (.all (.cons 14 .done .nil)) .nil)) .nil)) .nil))) (.cons 13 (.all (.cons 2 (.all (.cons 8 (.all (.cons 12 (.all (.cons 14 .done .nil)) .nil)) .nil)) (.cons 8 (.all (.cons 2 (.all (.cons 12 (.all (.cons 14 .done .nil)) .nil)) .nil)) .nil))) .nil)))) (.cons 13 (.all (.cons 2 (.all (.cons 8 (.all (.cons 11 (.all (.cons 12 (.all (.cons 14 .done .nil)) .nil)) .nil)) (.cons 11 (.all (.cons 8 (.all (.cons 12 (.all (.cons 14 .done .nil)) .nil)) .nil)) .nil))) (.cons 8 (.all (.cons 2 (.all (.cons 11 (.all (.cons 12 (.all (.cons 14 .done .nil)) .nil)) .nil)) (.cons 11 (.all (.cons 2 (.all (.cons 12 (.all (.cons 14 .done .nil)) .nil)) .nil)) .nil))) (.cons 11 (.all (.cons 2 (.all (.cons 8 (.all (.cons 12 (.all (.cons 14 .done .nil)) .nil)) .nil)) (.cons 8 (.all (.cons 2 (.all (.cons 12 (.all (.cons 14 .done .nil)) .nil)) .nil)) .nil))) .nil)))) .nil))))) (.cons 8 (.all (.cons 2 (.all (.cons 5 (.all (.cons 11 (.all (.cons 12 (.all (.cons 13 (.all (.cons 14 .done .nil)) .nil)) (.cons 13 (.all (.cons 12 (.all (.cons 14 .done .nil)) .nil)) .nil))) (.cons 13 (.all (.cons 11 (.all (.cons 12 (.all (.cons 14 .done .nil)) .nil)) .nil)) .nil))) (.cons 11 (.all (.cons 5 (.all (.cons 12 (.all (.cons 13 (.all (.cons 14 .done .nil)) .nil)) (.cons 13 (.all (.cons 12 (.all (.cons 14 .done .nil)) .nil)) .nil))) (.cons 13 (.all (.cons 5 (.all (.cons 12 (.all (.cons 14 .done .nil)) .nil)) .nil)) .nil))) (.cons 13 (.all (.cons 5 (.all (.cons 11 (.all (.cons 12 (.all (.cons 14 .done .nil)) .nil)) .nil)) (.cons 11 (.all (.cons 5 (.all (.cons 12 (.all (.cons 14 .done .nil)) .nil)) .nil)) .nil))) .nil)))) (.cons 5 (.all (.cons 2 (.all (.cons 11 (.all (.cons 12 (.all (.cons 13 (.all (.cons 14 .done .nil)) .nil)) (.cons 13 (.all (.cons 12 (.all (.cons 14 .done .nil)) .nil)) .nil))) (.cons 13 (.all (.cons 11 (.all (.cons 12 (.all (.cons 14 .done .nil)) .nil)) .nil)) .nil))) (.cons 11 (.all (.cons 2 (.all (.cons 12 (.all (.cons 13 (.all (.cons 14 .done .nil)) .nil)) (.cons 13 (.all (.cons 12 (.all (.cons 14 .done .nil)) .nil)) .nil))) (.cons 13 (.all (.cons 2 (.all (.cons 12 (.all (.cons 14 .done .nil)) .nil)) .nil)) .nil))) (.cons 13 (.all (.cons 2 (.all (.cons 11 (.all (.cons 12 (.all (.cons 14 .done .nil)) .nil)) .nil)) (.cons 11 (.all (.cons 2 (.all (.cons 12 (.all (.cons 14 .done .nil)) .nil)) .nil)) .nil))) .nil)))) (.cons 11 (.all (.cons 2 (.all (.cons 5 (.all (.cons 12 (.all (.cons 13 (.all (.cons 14 .done .nil)) .nil)) (.cons 13 (.all (.cons 12 (.all (.cons 14 .done .nil)) .nil)) .nil))) (.cons 13 (.all (.cons 5 (.all (.cons 12 (.all (.cons 14 .done .nil)) .nil)) .nil)) .nil))) (.cons 5 (.all (.cons 2 (.all (.cons 12 (.all (.cons 13 (.all (.cons 14 .done .nil)) .nil)) (.cons 13 (.all (.cons 12 (.all (.cons 14 .done .nil)) .nil)) .nil))) (.cons 13 (.all (.cons 2 (.all (.cons 12 (.all (.cons 14 .done .nil)) .nil)) .nil)) .nil))) (.cons 13 (.all (.cons 2 (.all (.cons 5 (.all (.cons 12 (.all (.cons 14 .done .nil)) .nil)) .nil)) (.cons 5 (.all (.cons 2 (.all (.cons 12 (.all (.cons 14 .done .nil)) .nil)) .nil)) .nil))) .nil)))) (.cons 13 (.all (.cons 2 (.all (.cons 5 (.all (.cons 11 (.all (.cons 12 (.all (.cons 14 .done .nil)) .nil)) .nil)) (.cons 11 (.all (.cons 5 (.all (.cons 12 (.all (.cons 14 .done .nil)) .nil)) .nil)) .nil))) (.cons 5 (.all (.cons 2 (.all (.cons 11 (.all (.cons 12 (.all (.cons 14 .done .nil)) .nil)) .nil)) (.cons 11 (.all (.cons 2 (.all (.cons 12 (.all (.cons 14 .done .nil)) .nil)) .nil)) .nil))) (.cons 11 (.all (.cons 2 (.all (.cons 5 (.all (.cons 12 (.all (.cons 14 .done .nil)) .nil)) .nil)) (.cons 5 (.all (.cons 2 (.all (.cons 12 (.all (.cons 14 .done .nil)) .nil)) .nil)) .nil))) .nil)))) .nil))))) (.cons 11 (.all (.cons 2 (.all (.cons 5 (.all (.cons 8 (.all (.cons 12 (.all (.cons 13 (.all (.cons 14 .done .nil)) .nil)) (.cons 13 (.all (.cons 12 (.all (.cons 14 .done .nil)) .nil)) .nil))) (.cons 13 (.all (.cons 8 (.all (.cons 12 (.all (.cons 14 .done .nil)) .nil)) .nil)) .nil))) (.cons 8 (.all (.cons 5 (.all (.cons 12 (.all (.cons 13 (.all (.cons 14 .done .nil)) .nil)) (.cons 13 (.all (.cons 12 (.all (.cons 14 .done .nil)) .nil)) .nil))) (.cons 13 (.all (.cons 5 (.all (.cons 12 (.all (.cons 14 .done .nil)) .nil)) .nil)) .nil))) (.cons 13 (.all (.cons 5 (.all (.cons 8 (.all (.cons 12 (.all (.cons 14 .done .nil)) .nil)) .nil)) (.cons 8 (.all (.cons 5 (.all (.cons 12 (.all (.cons 14 .done .nil)) .nil)) .nil)) .nil))) .nil)))) (.cons 5 (.all (.cons 2 (.all (.cons 8 (.all (.cons 12 (.all (.cons 13 (.all (.cons 14 .done .nil)) .nil)) (.cons 13 (.all (.cons 12 (.all (.cons 14 .done .nil)) .nil)) .nil))) (.cons 13 (.all (.cons 8 (.all (.cons 12 (.all (.cons 14 .done .nil)) .nil)) .nil)) .nil))) (.cons 8 (.all (.cons 2 (.all (.cons 12 (.all (.cons 13 (.all (.cons 14 .done .nil)) .nil)) (.cons 13 (.all (.cons 12 (.all (.cons 14 .done .nil)) .nil)) .nil))) (.cons 13 (.all (.cons 2 (.all (.cons 12 (.all (.cons 14 .done .nil)) .nil)) .nil)) .nil))) (.cons 13 (.all (.cons 2 (.all (.cons 8 (.all (.cons 12 (.all (.cons 14 .done .nil)) .nil)) .nil)) (.cons 8 (.all (.cons 2 (.all (.cons 12 (.all (.cons 14 .done .nil)) .nil)) .nil)) .nil))) .nil)))) (.cons 8 (.all (.cons 2 (.all (.cons 5 (.all (.cons 12 (.all (.cons 13 (.all (.cons 14 .done .nil)) .nil)) (.cons 13 (.all (.cons 12 (.all (.cons 14 .done .nil)) .nil)) .nil))) (.cons 13 (.all (.cons 5 (.all (.cons 12 (.all (.cons 14 .done .nil)) .nil)) .nil)) .nil))) (.cons 5 (.all (.cons 2 (.all (.cons 12 (.all (.cons 13 (.all (.cons 14 .done .nil)) .nil)) (.cons 13 (.all (.cons 12 (.all (.cons 14 .done .nil)) .nil)) .nil))) (.cons 13 (.all (.cons 2 (.all (.cons 12 (.all (.cons 14 .done .nil)) .nil)) .nil)) .nil))) (.cons 13 (.all (.cons 2 (.all (.cons 5 (.all (.cons 12 (.all (.cons 14 .done .nil)) .nil)) .nil)) (.cons 5 (.all (.cons 2 (.all (.cons 12 (.all (.cons 14 .done .nil)) .nil)) .nil)) .nil))) .nil)))) (.cons 13 (.all (.cons 2 (.all (.cons 5 (.all (.cons 8 (.all (.cons 12 (.all (.cons 14 .done .nil)) .nil)) .nil)) (.cons 8 (.all (.cons 5 (.all (.cons 12 (.all (.cons 14 .done .nil)) .nil)) .nil)) .nil))) (.cons 5 (.all (.cons 2 (.all (.cons 8 (.all (.cons 12 (.all (.cons 14 .done .nil)) .nil)) .nil)) (.cons 8 (.all (.cons 2 (.all (.cons 12 (.all (.cons 14 .done .nil)) .nil)) .nil)) .nil))) (.cons 8 (.all (.cons 2 (.all (.cons 5 (.all (.cons 12 (.all (.cons 14 .done .nil)) .nil)) .nil)) (.cons 5 (.all (.cons 2 (.all (.cons 12 (.all (.cons 14 .done .nil)) .nil)) .nil)) .nil))) .nil)))) .nil))))) (.cons 13 (.all (.cons 2 (.all (.cons 5 (.all (.cons 8 (.all (.cons 11 (.all (.cons 12 (.all (.cons 14 .done .nil)) .nil)) .nil)) (.cons 11 (.all (.cons 8 (.all (.cons 12 (.all (.cons 14 .done .nil)) .nil)) .nil)) .nil))) (.cons 8 (.all (.cons 5 (.all (.cons 11 (.all (.cons 12 (.all (.cons 14 .done .nil)) .nil)) .nil)) (.cons 11 (.all (.cons 5 (.all (.cons 12 (.all (.cons 14 .done .nil)) .nil)) .nil)) .nil))) (.cons 11 (.all (.cons 5 (.all (.cons 8 (.all (.cons 12 (.all (.cons 14 .done .nil)) .nil)) .nil)) (.cons 8 (.all (.cons 5 (.all (.cons 12 (.all (.cons 14 .done .nil)) .nil)) .nil)) .nil))) .nil)))) (.cons 5 (.all (.cons 2 (.all (.cons 8 (.all (.cons 11 (.all (.cons 12 (.all (.cons 14 .done .nil)) .nil)) .nil)) (.cons 11 (.all (.cons 8 (.all (.cons 12 (.all (.cons 14 .done .nil)) .nil)) .nil)) .nil))) (.cons 8 (.all (.cons 2 (.all (.cons 11 (.all (.cons 12 (.all (.cons 14 .done .nil)) .nil)) .nil)) (.cons 11 (.all (.cons 2 (.all (.cons 12 (.all (.cons 14 .done .nil)) .nil)) .nil)) .nil))) (.cons 11 (.all (.cons 2 (.all (.cons 8 (.all (.cons 12 (.all (.cons 14 .done .nil)) .nil)) .nil)) (.cons 8 (.all (.cons 2 (.all (.cons 12 (.all (.cons 14 .done .nil)) .nil)) .nil)) .nil))) .nil)))) (.cons 8 (.all (.cons 2 (.all (.cons 5 (.all (.cons 11 (.all (.cons 12 (.all (.cons 14 .done .nil)) .nil)) .nil)) (.cons 11 (.all (.cons 5 (.all (.cons 12 (.all (.cons 14 .done .nil)) .nil)) .nil)) .nil))) (.cons 5 (.all (.cons 2 (.all (.cons 11 (.all (.cons 12 (.all (.cons 14 .done .nil)) .nil)) .nil)) (.cons 11 (.all (.cons 2 (.all (.cons 12 (.all (.cons 14 .done .nil)) .nil)) .nil)) .nil))) (.cons 11 (.all (.cons 2 (.all (.cons 5 (.all (.cons 12 (.all (.cons 14 .done .nil)) .nil)) .nil)) (.cons 5 (.all (.cons 2 (.all (.cons 12 (.all (.cons 14 .done .nil)) .nil)) .nil)) .nil))) .nil)))) (.cons 11 (.all (.cons 2 (.all (.cons 5 (.all (.cons 8 (.all (.cons 12 (.all (.cons 14 .done .nil)) .nil)) .nil)) (.cons 8 (.all (.cons 5 (.all (.cons 12 (.all (.cons 14 .done .nil)) .nil)) .nil)) .nil))) (.cons 5 (.all (.cons 2 (.all (.cons 8 (.all (.cons 12 (.all (.cons 14 .done .nil)) .nil)) .nil)) (.cons 8 (.all (.cons 2 (.all (.cons 12 (.all (.cons 14 .done .nil)) .nil)) .nil)) .nil))) (.cons 8 (.all (.cons 2 (.all (.cons 5 (.all (.cons 12 (.all (.cons 14 .done .nil)) .nil)) .nil)) (.cons 5 (.all (.cons 2 (.all (.cons 12 (.all (.cons 14 .done .nil)) .nil)) .nil)) .nil))) .nil)))) .nil))))) .nil)))))))))))))))] f51_at rfl (by kernel_rfl) rfl (by kernel_rfl) rfl (fun i h => by cases h) rfl ?_
  intro hok
  simp only [go_sem] at hok
  simp only [Tryz.f51, Func.code, Option.getD_some]
  simp only [go_sem]
  refine call_lend ?_
  simp only [go_sem]
  refine callN.eq (ok84 s hs) (by simp only [go_sem]) ?_
  simp only [go_sem]
  have hln : (wordsB s).length ≤ s.size + 1 := (wordsN_le s (s.size + 1)).2
  have hw : ∀ m : Mv, m.ok = true → m.sh = s → wordsB s = [itoaB m.src, itoaB m.dst, itoaB m.sum, itoaB m.cnt] := fun m h e => by rw [← e]; exact Mv.sh_wds h
  refine vm_loopK (α := Nat × List Int) (fun q => [(0, .lit (.string s)), (2, .ptr true mv0.enc), (3, .lit (.bool false)), (4, .lst true 1 ((wordsB s).map strA)), (5, .lst true 1 (q.2.map intA)), (6, .lit (.int .i64 q.1))]) (fun q => (q.1 ≤ (wordsB s).length ∧ q.2.length = q.1) ∧ areN (wordsB s) q.2) (fun q => (wordsB s).length - q.1) (0, []) ?_ ⟨⟨by simp, rfl⟩, areN.nil⟩ (by kernel_rfl) (fun _ => rfl) ?_
  · simp only [go_sem]
    exact ⟨⟨rfl, rfl, rfl, rfl⟩, rfl⟩
  · rintro ⟨i, ns⟩ ⟨⟨hi, hl⟩, hn⟩ hk
    simp only at hi hl hn
    simp only [go_sem]
    intro hm
    first | refine branch_ndec (fun h6 => ?_) (fun h6 => ?_) | refine branch_dec (fun h6 => ?_) (fun h6 => ?_) | refine branch_nbool (fun h6 => ?_) (fun h6 => ?_) | refine branch_split (fun h6 => ?_) (fun h6 => ?_)
    · have hlt : i < (wordsB s).length := by omega
      have h0 : (0 : Int) ≤ (i : Int) := by omega
      have hw3 : IntKind.i64.wrap ((i : Int) + 1) = ((i + 1 : Nat) : Int) := by rw [wrap64 (by omega) (by omega)]; omega
      simp only [go_sem, h0, hlt, h6]
      refine call_lend ?_
      simp only [go_sem]
      refine callN.use (okN85 ((wordsB s).getD i default)) ?_
      rintro _ _ ⟨n, b, rfl, hnn, hbb⟩
      refine ⟨by simp only [go_sem], ?_⟩
      simp only [go_sem]
      cases b
      · have : rdM s = none := rdM_word hw hlt fun k hk2 he => by cases hbb k hk2 he
        rw [this]
        simp only [go_sem]
        rfl
      simp only [go_sem]
      refine ⟨by omega, ?_⟩
      rw [hw3]
      refine again_intro (i + 1, ns ++ [n]) ⟨⟨by simp only; omega, by simp only [List.length_append, List.length_cons, List.length_nil]; omega⟩, areN.app hn (by rw [hl]; exact hnn)⟩ (by simp only; omega) ?_
      simp only [go_sem]
      try exact ⟨rfl, rfl⟩
    · have hie : i = (wordsB s).length := by omega
      subst hie
      simp only [go_sem]
      intro _
      by_cases h4 : (ns.length : Int) = 4
      rotate_left
      · have : rdM s = none := rdM_len hw (by omega)
        rw [this]
        simp only [go_sem, h4]
        rfl
      have l0 : (0 : Int) < (ns.length : Int) := by omega
      have l1 : (1 : Int) < (ns.length : Int) := by omega
      have l2 : (2 : Int) < (ns.length : Int) := by omega
      have l3 : (3 : Int) < (ns.length : Int) := by omega
      have n0 : 0 < ns.length := by omega
      have n1 : 1 < ns.length := by omega
      have n2 : 2 < ns.length := by omega
      have n3 : 3 < ns.length := by omega
      simp only [go_sem, eq_true h4, l0, l1, l2, l3, n0, n1, n2, n3]
      have hns : ns = [ns.getD 0 default, ns.getD 1 default, ns.getD 2 default, ns.getD 3 default] := list_four (by omega)
      have hend := rdM_end hw hn hns
      refine call_lend ?_
      simp only [go_sem]
      refine callN.eq (ok42 ⟨ns.getD 0 default, ns.getD 1 default, ns.getD 2 default, ns.getD 3 default⟩) (by simp only [go_sem]) ?_
      simp only [go_sem]
      by_cases g : (⟨ns.getD 0 default, ns.getD 1 default, ns.getD 2 default, ns.getD 3 default⟩ : Mv).sh = s
      · by_cases hs0 : s = ⟨#[]⟩
        · exfalso
          subst hs0
          have : (wordsB ⟨#[]⟩).length ≤ 1 := (wordsN_le ⟨#[]⟩ 1).2
          omega
        rw [hend.1 g hs0]
        simp only [go_sem, eq_true g]
        rfl
      · rw [hend.2 g]
        simp only [go_sem, g]
        rfl
end Go.VS
set_option linter.unusedSimpArgs false
set_option linter.unusedVariables false
open Go.Proofs
set_option maxRecDepth 20000
namespace Go.VS
structure Bnk where
  money : List Int
  counts : List Int
instance : DecidableEq Bnk := fun a b => by
  cases a; cases b; simp only [Bnk.mk.injEq]; infer_instance
instance : Inhabited Bnk := ⟨⟨[], []⟩⟩
def Bnk.enc (own : Bool) (b : Bnk) : AVal := .agg [.lst own 1 (b.money.map intA), .lst own 1 (b.counts.map intA)]
theorem Bnk.enc_eq {own : Bool} {b : Bnk} : Bnk.enc own b = .agg [.lst own 1 (b.money.map intA), .lst own 1 (b.counts.map intA)] := nr rfl
attribute [go_sem] Bnk.enc_eq
theorem getElem_E {α : Type} [Inhabited α] {xs : List α} {i : Nat} (h : i < xs.length) : xs[i] = xs.getD i default := by simp [List.getD, h]
theorem nxE {P : Nat → Prop} {i : Nat} (he : ∀ j, j < i → P j) (h : P i) : ∀ j, j < i + 1 → P j := fun j hj => by
  by_cases hji : j < i
  · exact he j hji
  · have : j = i := by omega
    exact this ▸ h
def inM (n : Int) : Bool := decide (0 ≤ n ∧ n ≤ 1000000000)
def inC (n : Int) : Bool := decide (0 ≤ n ∧ n ≤ 1000000)
def Bnk.ok (b : Bnk) : Bool := (decide (b.money.length = 8) && b.money.all inM) && ((decide (b.counts.length = 8) && b.counts.all inC) && decide (b.money.sum ≤ 1000000000))
theorem Bnk.ok_iff {b : Bnk} : b.ok = true ↔ (b.money.length = 8 ∧ ∀ x ∈ b.money, 0 ≤ x ∧ x ≤ 1000000000) ∧ (b.counts.length = 8 ∧ ∀ x ∈ b.counts, 0 ≤ x ∧ x ≤ 1000000) ∧ b.money.sum ≤ 1000000000 := by
  simp only [Bnk.ok, Bool.and_eq_true, decide_eq_true_eq, List.all_eq_true, inM, inC]
def Bnk.put (b : Bnk) (m : Mv) : Bnk :=
  let x := b.money.set m.src.toNat (b.money.getD m.src.toNat default - m.sum)
  ⟨x.set m.dst.toNat (x.getD m.dst.toNat default + m.sum), b.counts.set m.src.toNat (b.counts.getD m.src.toNat default + 1)⟩
def Bnk.mv (b : Bnk) (m : Mv) : Bnk × Int :=
  if ¬ m.cnt = b.counts.getD m.src.toNat default then (b, 2) else if b.money.getD m.src.toNat default < m.sum then (b, 3) else (b.put m, 0)
theorem sum_set : ∀ (xs : List Int) (i : Nat) (v : Int), i < xs.length → (xs.set i v).sum = xs.sum - xs.getD i default + v
  | [], i, v, h => by simp at h
  | x :: xs, 0, v, h => by simp [List.getD]; omega
  | x :: xs, i + 1, v, h => by
    have ih := sum_set xs i v (by simpa using h)
    have e : (x :: xs).getD (i + 1) default = xs.getD i default := by simp [List.getD]
    rw [List.set_cons_succ, List.sum_cons, List.sum_cons, ih, e]
    omega
theorem le_sum : ∀ (xs : List Int), (∀ x ∈ xs, 0 ≤ x) → 0 ≤ xs.sum ∧ ∀ x ∈ xs, x ≤ xs.sum
  | [], _ => ⟨by simp, fun x hx => by simp at hx⟩
  | y :: ys, h => by
    have ih := le_sum ys fun x hx => h x (List.mem_cons_of_mem _ hx)
    have hy := h y (List.mem_cons_self ..)
    rw [List.sum_cons]
    refine ⟨by omega, fun x hx => ?_⟩
    rcases List.mem_cons.1 hx with rfl | hx
    · omega
    · have := ih.2 x hx
      omega
theorem set_mem {xs : List Int} {i : Nat} {v x : Int} (h : x ∈ xs.set i v) : x ∈ xs ∨ x = v := List.mem_or_eq_of_mem_set h
theorem Bnk.put_ok {b : Bnk} {m : Mv} (hb : b.ok = true) (hm : m.ok = true) (hc : m.cnt = b.counts.getD m.src.toNat default) (hs : ¬ b.money.getD m.src.toNat default < m.sum) : (b.put m).ok = true ∧ (b.put m).money.sum = b.money.sum := by
  obtain ⟨⟨h1, h2⟩, ⟨h3, h4⟩, h5⟩ := Bnk.ok_iff.1 hb
  obtain ⟨m1, m2, m3, m4⟩ := Mv.ok_iff.1 hm
  have hi : m.src.toNat < b.money.length := by omega
  have hx : (b.money.set m.src.toNat (b.money.getD m.src.toNat default - m.sum)).length = b.money.length := List.length_set
  have hsum : (b.put m).money.sum = b.money.sum := by
    show ((b.money.set m.src.toNat (b.money.getD m.src.toNat default - m.sum)).set m.dst.toNat _).sum = _
    rw [sum_set _ _ _ (by rw [hx]; omega), sum_set _ _ _ hi]
    omega
  have hmem1 : ∀ x ∈ b.money.set m.src.toNat (b.money.getD m.src.toNat default - m.sum), 0 ≤ x := fun x hx => by
    rcases set_mem hx with hx | rfl
    · exact (h2 x hx).1
    · omega
  have hd : m.dst.toNat < (b.money.set m.src.toNat (b.money.getD m.src.toNat default - m.sum)).length := by rw [hx]; omega
  have hmem : ∀ x ∈ (b.put m).money, 0 ≤ x := fun x hx => by
    rcases set_mem hx with hx | rfl
    · exact hmem1 x hx
    · have := hmem1 _ (getD_mem hd)
      omega
  refine ⟨Bnk.ok_iff.2 ⟨⟨?_, fun x hx => ⟨hmem x hx, ?_⟩⟩, ⟨?_, fun x hx => ?_⟩, by rw [hsum]; exact h5⟩, hsum⟩
  · show ((b.money.set _ _).set _ _).length = 8
    rw [List.length_set, List.length_set]
    exact h1
  · have := (le_sum _ hmem).2 x hx
    omega
  · show (b.counts.set _ _).length = 8
    rw [List.length_set]
    exact h3
  · rcases set_mem hx with hx | rfl
    · exact h4 x hx
    · omega
theorem Bnk.mv_ok {b : Bnk} {m : Mv} (hb : b.ok = true) (hm : m.ok = true) : (b.mv m).1.ok = true ∧ (b.mv m).1.money.sum = b.money.sum := by
  unfold Bnk.mv
  split
  · exact ⟨hb, rfl⟩
  · split
    · exact ⟨hb, rfl⟩
    · rename_i h1 h2
      exact Bnk.put_ok hb hm (Decidable.of_not_not h1) h2
noncomputable def Bnk.ln (b : Bnk) (s : ByteArray) : Bnk × Int := match rdM s with
  | some m => b.mv m
  | none => (b, 1)
noncomputable def Bnk.run (b : Bnk) (l : List ByteArray) : Nat → Bnk × List Int
  | 0 => (b, [])
  | i + 1 => (((b.run l i).1.ln (l.getD i default)).1, (b.run l i).2 ++ [((b.run l i).1.ln (l.getD i default)).2])
theorem Bnk.run_len (b : Bnk) (l : List ByteArray) : ∀ i, (b.run l i).2.length = i
  | 0 => rfl
  | i + 1 => by simp [Bnk.run, Bnk.run_len b l i]
theorem Bnk.ln_ok {b : Bnk} (hb : b.ok = true) (s : ByteArray) : (b.ln s).1.ok = true ∧ (b.ln s).1.money.sum = b.money.sum := by
  unfold Bnk.ln
  cases h : rdM s with
  | none => exact ⟨hb, rfl⟩
  | some m => exact Bnk.mv_ok hb (rdM_ok h).1
theorem Bnk.run_ok {b : Bnk} (hb : b.ok = true) (l : List ByteArray) : ∀ i, (b.run l i).1.ok = true ∧ (b.run l i).1.money.sum = b.money.sum
  | 0 => ⟨hb, rfl⟩
  | i + 1 => by
    have h1 := Bnk.run_ok hb l i
    have h2 := Bnk.ln_ok h1.1 (l.getD i default)
    exact ⟨h2.1, h2.2.trans h1.2⟩
end Go.VS
set_option linter.unusedSimpArgs false
set_option linter.unusedVariables false
open Go.Proofs
set_option maxRecDepth 20000
namespace Go.VS
theorem f48_at : gz.P.funcs[48]? = some Tryz.f48 := by
  have h : Tryz.prog.funcs[48]? = some Tryz.f48 := by kernel_rfl
  exact h
theorem f13_at : gz.P.funcs[13]? = some Tryz.f13 := by
  have h : Tryz.prog.funcs[13]? = some Tryz.f13 := by kernel_rfl
  exact h
theorem f83_at : gz.P.funcs[83]? = some Tryz.f83 := by
  have h : Tryz.prog.funcs[83]? = some Tryz.f83 := by kernel_rfl
  exact h
theorem f123_at : gz.P.funcs[123]? = some Tryz.f123 := by
  have h : Tryz.prog.funcs[123]? = some Tryz.f123 := by kernel_rfl
  exact h
theorem f82_at : gz.P.funcs[82]? = some Tryz.f82 := by
  have h : Tryz.prog.funcs[82]? = some Tryz.f82 := by kernel_rfl
  exact h
theorem f46_at : gz.P.funcs[46]? = some Tryz.f46 := by
  have h : Tryz.prog.funcs[46]? = some Tryz.f46 := by kernel_rfl
  exact h
theorem f47_at : gz.P.funcs[47]? = some Tryz.f47 := by
  have h : Tryz.prog.funcs[47]? = some Tryz.f47 := by kernel_rfl
  exact h
theorem f12_at : gz.P.funcs[12]? = some Tryz.f12 := by
  have h : Tryz.prog.funcs[12]? = some Tryz.f12 := by kernel_rfl
  exact h
theorem f45_at : gz.P.funcs[45]? = some Tryz.f45 := by
  have h : Tryz.prog.funcs[45]? = some Tryz.f45 := by kernel_rfl
  exact h
theorem f76_at : gz.P.funcs[76]? = some Tryz.f76 := by
  have h : Tryz.prog.funcs[76]? = some Tryz.f76 := by kernel_rfl
  exact h
theorem f39_at : gz.P.funcs[39]? = some Tryz.f39 := by
  have h : Tryz.prog.funcs[39]? = some Tryz.f39 := by kernel_rfl
  exact h
theorem ok48 (n : Int) : VCalls gz 48 [.lit (.int .i64 n)] none (fun y _ => y = .lit (.bool (inM n))) := by
  refine VCalls.go (nt := 5) (keep := [0, 2]) (muts := []) (mvs := []) [] f48_at rfl (by kernel_rfl) rfl (by kernel_rfl) rfl (fun i h => by cases h) rfl ?_
  intro hok
  simp only [go_sem] at hok
  simp only [Tryz.f48, Func.code, Option.getD_some]
  simp only [go_sem]
  refine call_lend ?_
  simp only [go_sem]
  refine callN.eq (ok37 n 0 1000000000) (by simp only [go_sem]) ?_
  simp only [go_sem]
  rfl
def rowB (b : Bnk) (i : Nat) : Bool := inM (b.money.getD i default) && inC (b.counts.getD i default)
theorem Bnk.ok_row {b : Bnk} {i : Nat} (hi : i < 8) (hl : b.money.length = 8) (hl2 : b.counts.length = 8) (h : rowB b i = false) : b.ok = false := by
  cases hq : b.ok
  · rfl
  · exfalso
    obtain ⟨⟨h1, h2⟩, ⟨h3, h4⟩, h5⟩ := Bnk.ok_iff.1 hq
    have a1 := h2 _ (getD_mem (xs := b.money) (i := i) (by omega))
    have a2 := h4 _ (getD_mem (xs := b.counts) (i := i) (by omega))
    rw [rowB, inM, inC, decide_eq_true a1, decide_eq_true a2] at h
    cases h
theorem sum_take {xs : List Int} {i : Nat} (h : i < xs.length) : (xs.take (i + 1)).sum = (xs.take i).sum + xs.getD i default := by
  rw [take_succ_getD h, List.sum_append]
  simp
theorem sum_rng {xs : List Int} : ∀ i, i ≤ xs.length → (∀ j, j < i → 0 ≤ xs.getD j default ∧ xs.getD j default ≤ 1000000000) → 0 ≤ (xs.take i).sum ∧ (xs.take i).sum ≤ 1000000000 * i
  | 0, _, _ => by simp
  | i + 1, hi, h => by
    have h1 := sum_rng i (by omega) fun j hj => h j (by omega)
    have h2 := h i (by omega)
    rw [sum_take (by omega)]
    omega
theorem inM_iff {n : Int} : inM n = true ↔ 0 ≤ n ∧ n ≤ 1000000000 := by simp [inM]
set_option maxHeartbeats 2000000 in
theorem ok13 (b : Bnk) : VCalls gz 13 [b.enc false] none (fun y _ => y = .lit (.bool b.ok)) := by
  refine VCalls.go (nt := 44) (keep := [0, 1, 2, 3, 4, 14, 16, 34]) (muts := []) (mvs := []) [] f13_at rfl (by kernel_rfl) rfl (by kernel_rfl) rfl (fun i h => by cases h) rfl ?_
  intro hok
  simp only [go_sem] at hok
  simp only [Tryz.f13, Func.code, Option.getD_some]
  simp only [go_sem]
  intro hm
  by_cases h1 : (b.money.length : Int) = 8
  rotate_left
  · have : b.ok = false := by simp only [Bnk.ok, decide_eq_false (show ¬ b.money.length = 8 by omega), Bool.false_and]
    simp only [go_sem, h1, this]
  simp only [go_sem, eq_true h1]
  intro hm2
  by_cases h2 : (b.counts.length : Int) = 8
  rotate_left
  · have : b.ok = false := by simp only [Bnk.ok, decide_eq_false (show ¬ b.counts.length = 8 by omega), Bool.false_and, Bool.and_false]
    simp only [go_sem, h2, this]
  simp only [go_sem, eq_true h2]
  have l1 : b.money.length = 8 := by omega
  have l2 : b.counts.length = 8 := by omega
  refine vm_loopK (α := Nat) (fun i => [(1, .ptr true (b.enc false)), (2, .lit (.bool false)), (3, .lit (.int .i64 (b.money.take i).sum)), (4, .lit (.int .i64 i))]) (fun i => i ≤ 8 ∧ ∀ j, j < i → rowB b j = true) (fun i => 8 - i) 0 ?_ ⟨by omega, fun j hj => by omega⟩ (by kernel_rfl) (fun _ => rfl) ?_
  · simp only [go_sem, List.take_zero, List.sum_nil]
    try trivial
  · rintro i ⟨hi, he⟩ hk
    have hsr := sum_rng (xs := b.money) i (by omega) fun j hj => by
      have := he j hj
      simp only [rowB, Bool.and_eq_true] at this
      exact inM_iff.1 this.1
    simp only [go_sem]
    first | refine branch_ndec (fun h6 => ?_) (fun h6 => ?_) | refine branch_dec (fun h6 => ?_) (fun h6 => ?_) | refine branch_nbool (fun h6 => ?_) (fun h6 => ?_) | refine branch_split (fun h6 => ?_) (fun h6 => ?_)
    · have hlt : i < b.money.length := by omega
      have hlt2 : i < b.counts.length := by omega
      have h6a : (i : Int) < (b.money.length : Int) := by omega
      have h6b : (i : Int) < (b.counts.length : Int) := by omega
      have h0 : (0 : Int) ≤ (i : Int) := by omega
      have hw3 : IntKind.i64.wrap ((i : Int) + 1) = ((i + 1 : Nat) : Int) := by rw [wrap64 (by omega) (by omega)]; omega
      simp only [go_sem, h0, hlt, hlt2, h6a, h6b]
      refine call_lend ?_
      simp only [go_sem]
      refine callN.eq (ok48 (b.money.getD i default)) (by simp only [go_sem]) ?_
      simp only [go_sem]
      cases g1 : inM (b.money.getD i default)
      · simp only [go_sem, Bnk.ok_row (i := i) (by omega) l1 l2 (by rw [rowB, g1, Bool.false_and])]
      simp only [go_sem, h0, hlt, hlt2, h6a, h6b]
      refine call_lend ?_
      simp only [go_sem]
      refine callN.eq (ok37 (b.counts.getD i default) 0 1000000) (by simp only [go_sem]) ?_
      simp only [go_sem]
      by_cases g2 : 0 ≤ b.counts.getD i default ∧ b.counts.getD i default ≤ 1000000
      rotate_left
      · simp only [go_sem, eq_false g2, Bnk.ok_row (i := i) (by omega) l1 l2 (by rw [rowB, inC, decide_eq_false g2, Bool.and_false])]
      have g1' := inM_iff.1 g1
      have hw4 : IntKind.i64.wrap ((b.money.take i).sum + b.money.getD i default) = (b.money.take (i + 1)).sum := by rw [sum_take hlt, wrap64 (by omega) (by omega)]
      simp only [go_sem, eq_true g2, h0, hlt, hlt2, h6a, h6b, hw3, hw4]
      refine again_intro (i + 1) ⟨by omega, nxE he (by rw [rowB, g1, inC, decide_eq_true g2]; rfl)⟩ (by omega) ?_
      simp only [go_sem]
      try trivial
    · have hie : i = 8 := by omega
      subst hie
      have hall : b.money.all inM = true ∧ b.counts.all inC = true := by
        constructor
        · refine List.all_eq_true.2 fun x hx => ?_
          obtain ⟨j, hj, rfl⟩ := List.mem_iff_getElem.1 hx
          rw [getElem_E hj]
          have := he j (by omega)
          simp only [rowB, Bool.and_eq_true] at this
          exact this.1
        · refine List.all_eq_true.2 fun x hx => ?_
          obtain ⟨j, hj, rfl⟩ := List.mem_iff_getElem.1 hx
          rw [getElem_E hj]
          have := he j (by omega)
          simp only [rowB, Bool.and_eq_true] at this
          exact this.2
      have hts : (b.money.take 8).sum = b.money.sum := by rw [List.take_of_length_le (by omega)]
      have : b.ok = decide (b.money.sum ≤ 1000000000) := by simp only [Bnk.ok, l1, l2, hall.1, hall.2, decide_true, Bool.true_and]
      simp only [go_sem, hts, this]
theorem ok123 (xs : List Int) (f : Nat) (caps : List AVal) (p : Int → Bool) (hc : shdAs caps = true) (hg : caps.all (fun x => !isAggA x) = true) (hf : ∀ x ∈ xs, VCalls gz f (intA x :: caps) none (fun y _ => y = .lit (.bool (p x)))) :
    VCalls gz 123 [.lst false 1 (xs.map intA), .fn f caps] none (fun y _ => y = .lit (.int .i64 (idxOf p xs))) := by
  refine VCalls.go (nt := 19) (keep := [0, 1, 4, 5, 7, 8, 9, 16]) (muts := []) (mvs := []) [] f123_at rfl (by kernel_rfl) rfl (by kernel_rfl) rfl (fun i h => by cases h) rfl ?_
  intro hok
  simp only [go_sem] at hok
  simp only [Tryz.f123, Func.code, Option.getD_some]
  simp only [go_sem]
  simp only [go_sem, shds_kill _ hc, shds_copy _ _ _ hc]
  intro hl
  refine vm_loopK (α := Nat) (fun i => [(0, .lst false 1 (xs.map intA)), (1, .fn f caps), (4, .lit (.int .i64 0)), (7, .lit (.int .i64 xs.length)), (8, .lit (.int .i64 i))]) (fun i => i ≤ xs.length ∧ ∀ x ∈ xs.take i, p x = false) (fun i => xs.length - i) 0 ?_ ⟨by omega, by simp⟩ (by kernel_rfl) (fun _ => rfl) ?_
  · simp only [go_sem]
    trivial
  · intro i hi _
    simp only [go_sem]
    first | refine branch_ndec (fun h => ?_) (fun h => ?_) | refine branch_dec (fun h => ?_) (fun h => ?_) | refine branch_nbool (fun h => ?_) (fun h => ?_) | refine branch_split (fun h => ?_) (fun h => ?_)
    · have hlt : i < xs.length := by omega
      simp only [go_sem, shds_kill _ hc, shds_copy _ _ _ hc]
      refine ⟨by omega, by omega, hlt, hg, ?_⟩
      refine call_lend ?_
      simp only [go_sem, shds_snap _ hc]
      refine callN.eq (hf _ (getD_mem hlt)) (by simp only [go_sem]) ?_
      simp only [go_sem, shds_kill _ hc, shds_copy _ _ _ hc]
      have hget : xs.getD i default = xs[i] := by simp [List.getD, List.getElem?_eq_getElem hlt]
      rw [hget]
      refine branch_split (fun h2 => ?_) (fun h2 => ?_)
      · simp only [go_sem, shds_kill _ hc, shds_copy _ _ _ hc]
        exact (idxOf_hit hi.2 hlt h2).symm
      · simp only [go_sem, shds_kill _ hc, shds_copy _ _ _ hc]
        simp (disch := omega) only [wrap64, wrapU64, wrapU32, wrapU8]
        refine again_intro (i + 1) ⟨by omega, ?_⟩ (by omega) ?_
        · intro x hx
          rw [take_succ_getD hlt, List.mem_append, hget] at hx
          rcases hx with hx | hx
          · exact hi.2 x hx
          · simp only [List.mem_singleton] at hx
            rw [hx]
            exact h2
        · simp only [go_sem]
          omega
    · simp only [go_sem]
      have hie : i = xs.length := by omega
      refine (idxOf_none ?_).symm
      have := hi.2
      rwa [hie, List.take_length] at this
theorem ok82 (xs : List Int) (f : Nat) (caps : List AVal) (p : Int → Bool) (hc : shdAs caps = true) (hg : caps.all (fun x => !isAggA x) = true) (hf : ∀ x ∈ xs, VCalls gz f (intA x :: caps) none (fun y _ => y = .lit (.bool (p x)))) :
    VCalls gz 82 [.lst false 1 (xs.map intA), .fn f caps] none (fun y _ => y = .lit (.bool (xs.any p))) := by
  refine VCalls.go (nt := 9) (keep := [0, 1, 4]) (muts := []) (mvs := []) [] f82_at rfl (by kernel_rfl) rfl (by kernel_rfl) rfl (fun i h => by cases h) rfl ?_
  intro hok
  simp only [go_sem] at hok
  simp only [Tryz.f82, Func.code, Option.getD_some]
  simp only [go_sem]
  simp only [go_sem, shds_kill _ hc, shds_copy _ _ _ hc]
  refine call_lend ?_
  simp only [go_sem, shds_snap _ hc]
  refine callN.eq (ok123 xs f caps p hc hg hf) (by simp only [go_sem]) ?_
  simp only [go_sem, shds_kill _ hc, shds_copy _ _ _ hc]
  simp only [idxOf_nonneg, Bool.decide_eq_true]
def outB (most n : Int) : Bool := !decide (0 ≤ n ∧ n ≤ most)
theorem ok83 (n most : Int) : VCalls gz 83 [intA n, .ptr false (.lit (.int .i64 most))] none (fun y _ => y = .lit (.bool (outB most n))) := by
  refine VCalls.go (nt := 8) (keep := [0, 1, 3]) (muts := []) (mvs := []) [] f83_at rfl (by kernel_rfl) rfl (by kernel_rfl) rfl (fun i h => by cases h) rfl ?_
  intro hok
  simp only [go_sem] at hok
  simp only [Tryz.f83, Func.code, Option.getD_some]
  simp only [go_sem]
  refine call_lend ?_
  simp only [go_sem]
  refine callN.eq (ok50 n 0 most) (by simp only [go_sem]) ?_
  simp only [go_sem]
  rw [outB, decide_not]
theorem ok46 (l : List Int) (most : Int) : VCalls gz 46 [.lst false 1 (l.map intA), .lit (.int .i64 most)] none (fun y _ => y = .lit (.bool (decide (l.length = 8) && !l.any (outB most)))) := by
  refine VCalls.go (nt := 14) (keep := [0, 1, 3, 4]) (muts := []) (mvs := []) [] f46_at rfl (by kernel_rfl) rfl (by kernel_rfl) rfl (fun i h => by cases h) rfl ?_
  intro hok
  simp only [go_sem] at hok
  simp only [Tryz.f46, Func.code, Option.getD_some]
  simp only [go_sem]
  intro hm
  by_cases h1 : (l.length : Int) = 8
  rotate_left
  · have : decide (l.length = 8) = false := decide_eq_false (by omega)
    simp only [go_sem, h1, this, Bool.false_and]
  have : decide (l.length = 8) = true := decide_eq_true (by omega)
  simp only [go_sem, eq_true h1, this, Bool.true_and]
  refine call_lend ?_
  simp only [go_sem]
  refine callN.eq (ok82 l 83 [_] (outB most) rfl rfl (fun x _ => ok83 x most)) (by simp only [go_sem]) ?_
  simp only [go_sem]
theorem ok47 (l : List Int) (hl : l.length = 8) (hr : ∀ x ∈ l, 0 ≤ x ∧ x ≤ 1000000000) : VCalls gz 47 [.lst false 1 (l.map intA)] none (fun y _ => y = .lit (.int .i64 l.sum)) := by
  refine VCalls.go (nt := 17) (keep := [0, 2, 3, 5, 6, 7, 8, 9]) (muts := []) (mvs := []) [] f47_at rfl (by kernel_rfl) rfl (by kernel_rfl) rfl (fun i h => by cases h) rfl ?_
  intro hok
  simp only [go_sem] at hok
  simp only [Tryz.f47, Func.code, Option.getD_some]
  simp only [go_sem]
  intro hm
  refine vm_loopK (α := Nat) (fun i => [(3, .lit (.int .i64 (l.take i).sum)), (6, .lst false 1 (l.map intA)), (7, .lit (.int .i64 l.length)), (8, .lit (.int .i64 i))]) (fun i => i ≤ l.length) (fun i => l.length - i) 0 ?_ (by omega) (by kernel_rfl) (fun _ => rfl) ?_
  · simp only [go_sem, List.take_zero, List.sum_nil]
    try trivial
  · intro i hi hk
    have hsr := sum_rng (xs := l) i (by omega) fun j hj => hr _ (getD_mem (by omega))
    simp only [go_sem]
    first | refine branch_ndec (fun h6 => ?_) (fun h6 => ?_) | refine branch_dec (fun h6 => ?_) (fun h6 => ?_) | refine branch_nbool (fun h6 => ?_) (fun h6 => ?_) | refine branch_split (fun h6 => ?_) (fun h6 => ?_)
    · have hlt : i < l.length := by omega
      have h0 : (0 : Int) ≤ (i : Int) := by omega
      have hv := hr _ (getD_mem hlt)
      have hw3 : IntKind.i64.wrap ((i : Int) + 1) = ((i + 1 : Nat) : Int) := by rw [wrap64 (by omega) (by omega)]; omega
      have hw4 : IntKind.i64.wrap ((l.take i).sum + l.getD i default) = (l.take (i + 1)).sum := by rw [sum_take hlt, wrap64 (by omega) (by omega)]
      simp only [go_sem, h0, hlt, h6, hw3, hw4]
      refine again_intro (i + 1) (by omega) (by omega) ?_
      simp only [go_sem]
      try trivial
    · have hie : i = l.length := by omega
      subst hie
      simp only [go_sem, List.take_length]
theorem ok12 (b : Bnk) : VCalls gz 12 [b.enc false] none (fun y _ => y = .lit (.bool b.ok)) := by
  have e1 : (!b.money.any (outB 1000000000)) = b.money.all inM := by rw [List.all_eq_not_any_not]; rfl
  have e2 : (!b.counts.any (outB 1000000)) = b.counts.all inC := by rw [List.all_eq_not_any_not]; rfl
  refine VCalls.go (nt := 17) (keep := [0, 1, 2]) (muts := []) (mvs := []) [] f12_at rfl (by kernel_rfl) rfl (by kernel_rfl) rfl (fun i h => by cases h) rfl ?_
  intro hok
  simp only [go_sem] at hok
  simp only [Tryz.f12, Func.code, Option.getD_some]
  simp only [go_sem]
  refine call_lend ?_
  simp only [go_sem]
  refine callN.eq (ok46 b.money 1000000000) (by simp only [go_sem]) ?_
  simp only [go_sem]
  rw [e1]
  cases g1 : (decide (b.money.length = 8) && b.money.all inM)
  · have : b.ok = false := by simp only [Bnk.ok, g1, Bool.false_and]
    simp only [go_sem, this]
  simp only [go_sem]
  refine call_lend ?_
  simp only [go_sem]
  refine callN.eq (ok46 b.counts 1000000) (by simp only [go_sem]) ?_
  simp only [go_sem]
  rw [e2]
  cases g2 : (decide (b.counts.length = 8) && b.counts.all inC)
  · have : b.ok = false := by simp only [Bnk.ok, g2, Bool.false_and, Bool.and_false]
    simp only [go_sem, this]
  simp only [go_sem]
  simp only [Bool.and_eq_true, decide_eq_true_eq, List.all_eq_true] at g1
  refine call_lend ?_
  simp only [go_sem]
  refine callN.eq (ok47 b.money g1.1 (fun x hx => inM_iff.1 (g1.2 x hx))) (by simp only [go_sem]) ?_
  simp only [go_sem]
  have : b.ok = decide (b.money.sum ≤ 1000000000) := by
    simp only [Bnk.ok, g2, decide_eq_true g1.1, List.all_eq_true.2 g1.2, Bool.true_and]
  rw [this]
theorem ok76 (xs : List Int) (hx : xs.length * 8 ≤ 140737488355328) : VCalls gz 76 [.lst false 1 (xs.map intA)] none (fun y _ => y = .lst true 1 (xs.map intA)) := by
  refine VCalls.go (nt := 8) (keep := [0, 2, 4]) (muts := []) (mvs := []) [] f76_at rfl (by kernel_rfl) rfl (by kernel_rfl) rfl (fun i h => by cases h) rfl ?_
  intro hok
  simp only [go_sem] at hok
  simp only [Tryz.f76, Func.code, Option.getD_some]
  simp only [go_sem]
  intro b hb
  first | refine branch_ndec (fun h => ?_) (fun h => ?_) | refine branch_dec (fun h => ?_) (fun h => ?_) | refine branch_nbool (fun h => ?_) (fun h => ?_) | refine branch_split (fun h => ?_) (fun h => ?_)
  · simp only [go_sem]
    have h0 : xs = [] := List.eq_nil_of_length_eq_zero (Nat.eq_zero_of_not_pos fun h1 => by rw [hb h1] at h; cases h)
    subst h0
    simp only [go_sem]
  · simp only [go_sem]
    exact ⟨by omega, by omega⟩
theorem ok39 (b : Bnk) (h1 : b.money.length ≤ 1048576) (h2 : b.counts.length ≤ 1048576) : VCalls gz 39 [b.enc false] none (fun y _ => y = b.enc true) := by
  refine VCalls.go (nt := 10) (keep := [0, 1, 2]) (muts := []) (mvs := []) [(1, .tree false (.take 0 (.take 3 (.all (.cons 1 (.all (.cons 2 (.all (.cons 4 (.all (.cons 5 (.all (.cons 6 (.all (.cons 7 .done .nil)) .nil)) .nil)) .nil)) (.cons 4 (.all (.cons 2 (.all (.cons 5 (.all (.cons 6 (.all (.cons 7 .done .nil)) .nil)) .nil)) .nil)) .nil))) (.cons 4 (.all (.cons 1 (.all (.cons 2 (.all (.cons 5 (.all (.cons 6 (.all (.cons 7 .done .nil)) .nil)) .nil)) .nil)) .nil)) .nil))))))] f39_at rfl (by kernel_rfl) rfl (by kernel_rfl) rfl (fun i h => by cases h) rfl ?_
  intro hok
  simp only [go_sem] at hok
  simp only [Tryz.f39, Func.code, Option.getD_some]
  simp only [go_sem]
  repeat' refine And.intro ?_ ?_
  all_goals
    refine call_lend ?_
    simp only [go_sem]
    refine callN.eq (ok76 b.money (by omega)) (by simp only [go_sem]) ?_
    simp only [go_sem]
    refine call_lend ?_
    simp only [go_sem]
    refine callN.eq (ok76 b.counts (by omega)) (by simp only [go_sem]) ?_
    simp only [go_sem]
theorem ok45 (b : Bnk) (h1 : b.money.length ≤ 1048576) (h2 : b.counts.length ≤ 1048576) : VCalls gz 45 [b.enc false] none (fun y _ => y = b.enc true) := by
  refine VCalls.go (nt := 12) (keep := [0, 1, 2]) (muts := []) (mvs := []) [(1, .tree false (.take 1 (.take 5 (.all (.cons 0 (.all (.cons 2 (.all (.cons 3 (.all (.cons 4 (.all (.cons 6 (.all (.cons 7 (.all (.cons 8 (.all (.cons 9 .done .nil)) .nil)) .nil)) .nil)) (.cons 6 (.all (.cons 4 (.all (.cons 7 (.all (.cons 8 (.all (.cons 9 .done .nil)) .nil)) .nil)) .nil)) .nil))) (.cons 4 (.all (.cons 3 (.all (.cons 6 (.all (.cons 7 (.all (.cons 8 (.all (.cons 9 .done .nil)) .nil)) .nil)) .nil)) (.cons 6 (.all (.cons 3 (.all (.cons 7 (.all (.cons 8 (.all (.cons 9 .done .nil)) .nil)) .nil)) .nil)) .nil))) (.cons 6 (.all (.cons 3 (.all (.cons 4 (.all (.cons 7 (.all (.cons 8 (.all (.cons 9 .done .nil)) .nil)) .nil)) .nil)) (.cons 4 (.all (.cons 3 (.all (.cons 7 (.all (.cons 8 (.all (.cons 9 .done .nil)) .nil)) .nil)) .nil)) .nil))) .nil)))) (.cons 4 (.all (.cons 2 (.all (.cons 3 (.all (.cons 6 (.all (.cons 7 (.all (.cons 8 (.all (.cons 9 .done .nil)) .nil)) .nil)) .nil)) (.cons 6 (.all (.cons 3 (.all (.cons 7 (.all (.cons 8 (.all (.cons 9 .done .nil)) .nil)) .nil)) .nil)) .nil))) (.cons 6 (.all (.cons 2 (.all (.cons 3 (.all (.cons 7 (.all (.cons 8 (.all (.cons 9 .done .nil)) .nil)) .nil)) .nil)) .nil)) .nil))) (.cons 6 (.all (.cons 2 (.all (.cons 3 (.all (.cons 4 (.all (.cons 7 (.all (.cons 8 (.all (.cons 9 .done .nil)) .nil)) .nil)) .nil)) (.cons 4 (.all (.cons 3 (.all (.cons 7 (.all (.cons 8 (.all (.cons 9 .done .nil)) .nil)) .nil)) .nil)) .nil))) (.cons 4 (.all (.cons 2 (.all (.cons 3 (.all (.cons 7 (.all (.cons 8 (.all (.cons 9 .done .nil)) .nil)) .nil)) .nil)) .nil)) .nil))) .nil)))) (.cons 2 (.all (.cons 0 (.all (.cons 3 (.all (.cons 4 (.all (.cons 6 (.all (.cons 7 (.all (.cons 8 (.all (.cons 9 .done .nil)) .nil)) .nil)) .nil)) (.cons 6 (.all (.cons 4 (.all (.cons 7 (.all (.cons 8 (.all (.cons 9 .done .nil)) .nil)) .nil)) .nil)) .nil))) (.cons 4 (.all (.cons 3 (.all (.cons 6 (.all (.cons 7 (.all (.cons 8 (.all (.cons 9 .done .nil)) .nil)) .nil)) .nil)) (.cons 6 (.all (.cons 3 (.all (.cons 7 (.all (.cons 8 (.all (.cons 9 .done .nil)) .nil)) .nil)) .nil)) .nil))) (.cons 6 (.all (.cons 3 (.all (.cons 4 (.all (.cons 7 (.all (.cons 8 (.all (.cons 9 .done .nil)) .nil)) .nil)) .nil)) (.cons 4 (.all (.cons 3 (.all (.cons 7 (.all (.cons 8 (.all (.cons 9 .done .nil)) .nil)) .nil)) .nil)) .nil))) .nil)))) (.cons 4 (.all (.cons 0 (.all (.cons 3 (.all (.cons 6 (.all (.cons 7 (.all (.cons 8 (.all (.cons 9 .done .nil)) .nil)) .nil)) .nil)) (.cons 6 (.all (.cons 3 (.all (.cons 7 (.all (.cons 8 (.all (.cons 9 .done .nil)) .nil)) .nil)) .nil)) .nil))) (.cons 6 (.all (.cons 0 (.all (.cons 3 (.all (.cons 7 (.all (.cons 8 (.all (.cons 9 .done .nil)) .nil)) .nil)) .nil)) .nil)) .nil))) (.cons 6 (.all (.cons 0 (.all (.cons 3 (.all (.cons 4 (.all (.cons 7 (.all (.cons 8 (.all (.cons 9 .done .nil)) .nil)) .nil)) .nil)) (.cons 4 (.all (.cons 3 (.all (.cons 7 (.all (.cons 8 (.all (.cons 9 .done .nil)) .nil)) .nil)) .nil)) .nil))) (.cons 4 (.all (.cons 0 (.all (.cons 3 (.all (.cons 7 (.all (.cons 8 (.all (.cons 9 .done .nil)) .nil)) .nil)) .nil)) .nil)) .nil))) .nil)))) (.cons 4 (.all (.cons 0 (.all (.cons 2 (.all (.cons 3 (.all (.cons 6 (.all (.cons 7 (.all (.cons 8 (.all (.cons 9 .done .nil)) .nil)) .nil)) .nil)) (.cons 6 (.all (.cons 3 (.all (.cons 7 (.all (.cons 8 (.all (.cons 9 .done .nil)) .nil)) .nil)) .nil)) .nil))) (.cons 6 (.all (.cons 2 (.all (.cons 3 (.all (.cons 7 (.all (.cons 8 (.all (.cons 9 .done .nil)) .nil)) .nil)) .nil)) .nil)) .nil))) (.cons 2 (.all (.cons 0 (.all (.cons 3 (.all (.cons 6 (.all (.cons 7 (.all (.cons 8 (.all (.cons 9 .done .nil)) .nil)) .nil)) .nil)) (.cons 6 (.all (.cons 3 (.all (.cons 7 (.all (.cons 8 (.all (.cons 9 .done .nil)) .nil)) .nil)) .nil)) .nil))) (.cons 6 (.all (.cons 0 (.all (.cons 3 (.all (.cons 7 (.all (.cons 8 (.all (.cons 9 .done .nil)) .nil)) .nil)) .nil)) .nil)) .nil))) (.cons 6 (.all (.cons 0 (.all (.cons 2 (.all (.cons 3 (.all (.cons 7 (.all (.cons 8 (.all (.cons 9 .done .nil)) .nil)) .nil)) .nil)) .nil)) (.cons 2 (.all (.cons 0 (.all (.cons 3 (.all (.cons 7 (.all (.cons 8 (.all (.cons 9 .done .nil)) .nil)) .nil)) .nil)) .nil)) .nil))) .nil)))) (.cons 6 (.all (.cons 0 (.all (.cons 2 (.all (.cons 3 (.all (.cons 4 (.all (.cons 7 (.all (.cons 8 (.all (.cons 9 .done .nil)) .nil)) .nil)) .nil)) (.cons 4 (.all (.cons 3 (.all (.cons 7 (.all (.cons 8 (.all (.cons 9 .done .nil)) .nil)) .nil)) .nil)) .nil))) (.cons 4 (.all (.cons 2 (.all (.cons 3 (.all (.cons 7 (.all (.cons 8 (.all (.cons 9 .done .nil)) .nil)) .nil)) .nil)) .nil)) .nil))) (.cons 2 (.all (.cons 0 (.all (.cons 3 (.all (.cons 4 (.all (.cons 7 (.all (.cons 8 (.all (.cons 9 .done .nil)) .nil)) .nil)) .nil)) (.cons 4 (.all (.cons 3 (.all (.cons 7 (.all (.cons 8 (.all (.cons 9 .done .nil)) .nil)) .nil)) .nil)) .nil))) (.cons 4 (.all (.cons 0 (.all (.cons 3 (.all (.cons 7 (.all (.cons 8 (.all (.cons 9 .done .nil)) .nil)) .nil)) .nil)) .nil)) .nil))) (.cons 4 (.all (.cons 0 (.all (.cons 2 (.all (.cons 3 (.all (.cons 7 (.all (.cons 8 (.all (.cons 9 .done .nil)) .nil)) .nil)) .nil)) .nil)) (.cons 2 (.all (.cons 0 (.all (.cons 3 (.all (.cons 7 (.all (.cons 8 (.all (.cons 9 .done .nil)) .nil)) .nil)) .nil)) .nil)) .nil))) .nil)))) .nil))))))))] f45_at rfl (by kernel_rfl) rfl (by kernel_rfl) rfl (fun i h => by cases h) rfl ?_
  intro hok
  simp only [go_sem] at hok
  simp only [Tryz.f45, Func.code, Option.getD_some]
  simp only [go_sem]
  omega
end Go.VS
