/- VS: functions by the machine. -/
import Derived.Test.YtgoohbakklimcaaDoorVj
set_option linter.unusedSimpArgs false
set_option linter.unusedVariables false
open Go.Proofs Go.RowKit
set_option maxRecDepth 20000
namespace Go.VS
theorem rdM_word {s : ByteArray} {ws : List ByteArray} (hw : ∀ m : Mv, m.ok = true → m.sh = s → ws = [itoaB m.src, itoaB m.dst, itoaB m.sum, itoaB m.cnt]) {i : Nat} (hi : i < ws.length) (h : ∀ k : Nat, k < 10000000000 → ws.getD i default = itoaB k → False) : rdM s = none := rdM_no fun m hm e => by
  have h2 := hw m hm e
  obtain ⟨a1, a2, a3, a4⟩ := Mv.ok_iff.1 hm
  have key : ∀ x : Int, 0 ≤ x → x < 10000000000 → ws.getD i default = itoaB x → False := fun x hx hx2 he => by
    obtain ⟨k, rfl⟩ := Int.eq_ofNat_of_zero_le hx
    exact h k (by omega) he
  rw [h2] at hi key
  match i, hi with
  | 0, _ => exact key m.src a1.1 (by omega) rfl
  | 1, _ => exact key m.dst a2.1 (by omega) rfl
  | 2, _ => exact key m.sum (by omega) (by omega) rfl
  | 3, _ => exact key m.cnt a4.1 (by omega) rfl
set_option maxHeartbeats 2000000 in
theorem ok24 (s : ByteArray) (hs : s.size ≤ 4000000) : VCalls gz 24 [.lit (.string s)] none (fun y _ => y = rdA (rdM s)) := by
  refine VCalls.go (nt := 57) (keep := [0, 2, 3, 4, 5, 6, 7, 8, 9, 16, 28, 36, 54]) (muts := []) (mvs := []) [(12, .tree false (.take 0 (.take 1 (.take 3 (.take 4 (.take 6 (.take 7 (.take 9 (.take 10 (.all (.cons 2 (.all (.cons 5 (.all (.cons 8 (.all (.cons 11 (.all (.cons 12 (.all (.cons 13 (.all (.cons 14 .done .nil)) .nil)) (.cons 13 (.all (.cons 12 (.all (.cons 14 .done .nil)) .nil)) .nil))) (.cons 13 (.all (.cons 11 (.all (.cons 12 (.all (.cons 14 .done .nil)) .nil)) .nil)) .nil))) (.cons 11 (.all (.cons 8 (.all (.cons 12 (.all (.cons 13 (.all (.cons 14 .done .nil)) .nil)) (.cons 13 (.all (.cons 12 (.all (.cons 14 .done .nil)) .nil)) .nil))) (.cons 13 (.all (.cons 8 (.all (.cons 12 (.all (.cons 14 .done .nil)) .nil)) .nil)) .nil))) (.cons 13 (.all (.cons 8 (.all (.cons 11 (.all (.cons 12 (.all (.cons 14 .done .nil)) .nil)) .nil)) (.cons 11 (.all (.cons 8 (.all (.cons 12 (.all (.cons 14 .done .nil)) .nil)) .nil)) .nil))) .nil)))) (.cons 8 (.all (.cons 5 (.all (.cons 11 (.all (.cons 12 (.all (.cons 13 (.all (.cons 14 .done .nil)) .nil)) (.cons 13 (.all (.cons 12 (.all (.cons 14 .done .nil)) .nil)) .nil))) (.cons 13 (.all (.cons 11 (.all (.cons 12 (.all (.cons 14 .done .nil)) .nil)) .nil)) .nil))) (.cons 11 (.all (.cons 5 (.all (.cons 12 (.all (.cons 13 (.all (.cons 14 .done .nil)) .nil)) (.cons 13 (.all (.cons 12 (.all (.cons 14 .done .nil)) .nil)) .nil))) (.cons 13 (.all (.cons 5 (.all (.cons 12 (.all (.cons 14 .done .nil)) .nil)) .nil)) .nil))) (.cons 13 (.all (.cons 5 (.all (.cons 11 (.all (.cons 12 (.all (.cons 14 .done .nil)) .nil)) .nil)) (.cons 11 (.all (.cons 5 (.all (.cons 12 (.all (.cons 14 .done .nil)) .nil)) .nil)) .nil))) .nil)))) (.cons 11 (.all (.cons 5 (.all (.cons 8 (.all (.cons 12 (.all (.cons 13 (.all (.cons 14 .done .nil)) .nil)) (.cons 13 (.all (.cons 12 (.all (.cons 14 .done .nil)) .nil)) .nil))) (.cons 13 (.all (.cons 8 (.all (.cons 12 (.all (.cons 14 .done .nil)) .nil)) .nil)) .nil))) (.cons 8 (.all (.cons 5 (.all (.cons 12 (.all (.cons 13 (.all (.cons 14 .done .nil)) .nil)) (.cons 13 (.all (.cons 12 (.all (.cons 14 .done .nil)) .nil)) .nil))) (.cons 13 (.all (.cons 5 (.all (.cons 12 (.all (.cons 14 .done .nil)) .nil)) .nil)) .nil))) (.cons 13 (.all (.cons 5 (.all (.cons 8 (.all (.cons 12 (.all (.cons 14 .done .nil)) .nil)) .nil)) (.cons 8 (.all (.cons 5 (.all (.cons 12 (.all (.cons 14 .done .nil)) .nil)) .nil)) .nil))) .nil)))) (.cons 13 (.all (.cons 5 (.all (.cons 8 (.all (.cons 11 (.all (.cons 12 (.all (.cons 14 .done .nil)) .nil)) .nil)) (.cons 11 (.all (.cons 8 (.all (.cons 12 (.all (.cons 14 .done .nil)) .nil)) .nil)) .nil))) (.cons 8 (.all (.cons 5 (.all (.cons 11 (.all (.cons 12 (.all (.cons 14 .done .nil)) .nil)) .nil)) (.cons 11 (.all (.cons 5 (.all (.cons 12 (.all (.cons 14 .done .nil)) .nil)) .nil)) .nil))) (.cons 11 (.all (.cons 5 (.all (.cons 8 (.all (.cons 12 (.all (.cons 14 .done .nil)) .nil)) .nil)) (.cons 8 (.all (.cons 5 (.all (.cons 12 (.all (.cons 14 .done .nil)) .nil)) .nil)) .nil))) .nil)))) .nil))))) (.cons 5 (.all (.cons 2 (.all (.cons 8 (.all (.cons 11 (.all (.cons 12 (.all (.cons 13 (.all (.cons 14 .done .nil)) .nil)) (.cons 13 (.all (.cons 12 (.all (.cons 14 .done .nil)) .nil)) .nil))) (.cons 13 (.all (.cons 11 (.all (.cons 12 (.all (.cons 14 .done .nil)) .nil)) .nil)) .nil))) (.cons 11 (.all (.cons 8 (.all (.cons 12 (.all (.cons 13 (.all (.cons 14 .done .nil)) .nil)) (.cons 13 (.all (.cons 12 (.all (.cons 14 .done .nil)) .nil)) .nil))) (.cons 13 (.all (.cons 8 (.all (.cons 12 (.all (.cons 14 .done .nil)) .nil)) .nil)) .nil))) (.cons 13 (.all (.cons 8 (.all (.cons 11 (.all (.cons 12 (.all (.cons 14 .done .nil)) .nil)) .nil)) (.cons 11 (.all (.cons 8 (.all (.cons 12 (.all (.cons 14 .done .nil)) .nil)) .nil)) .nil))) .nil)))) (.cons 8 (.all (.cons 2 (.all (.cons 11 (.all (.cons 12 (.all (.cons 13 (.all (.cons 14 .done .nil)) .nil)) (.cons 13 (.all (.cons 12 (.all (.cons 14 .done .nil)) .nil)) .nil))) (.cons 13 (.all (.cons 11 (.all (.cons 12 (.all (.cons 14 .done .nil)) .nil)) .nil)) .nil))) (.cons 11 (.all (.cons 2 (.all (.cons 12 (.all (.cons 13 (.all (.cons 14 .done .nil)) .nil)) (.cons 13 (.all (.cons 12 (.all (.cons 14 .done .nil)) .nil)) .nil))) (.cons 13 (.all (.cons 2 (.all (.cons 12 (.all (.cons 14 .done .nil)) .nil)) .nil)) .nil))) (.cons 13 (.all (.cons 2 (.all (.cons 11 (.all (.cons 12 (.all (.cons 14 .done .nil)) .nil)) .nil)) (.cons 11 (.all (.cons 2 (.all (.cons 12 (.all (.cons 14 .done .nil)) .nil)) .nil)) .nil))) .nil)))) (.cons 11 (.all (.cons 2 (.all (.cons 8 (.all (.cons 12 (.all (.cons 13 (.all (.cons 14 .done .nil)) .nil)) (.cons 13 (.all (.cons 12 (.all (.cons 14 .done .nil)) .nil)) .nil))) (.cons 13 (.all (.cons 8 (.all (.cons 12 (.all (.cons 14 .done .nil)) .nil)) .nil)) .nil))) (.cons 8 (.all (.cons 2 (.all (.cons 12 (.all (.cons 13 (.all (.cons 14 .done .nil)) .nil)) (.cons 13 (.all (.cons 12 (.all (.cons 14 .done .nil)) .nil)) .nil))) (.cons 13 (.all (.cons 2 (.all (.cons 12 (.all (.cons 14 .done .nil)) .nil)) .nil)) .nil))) (.cons 13 (.all (.cons 2 (.all (.cons 8 (.all (.cons 12 (.all (.cons 14 .done .nil)) .nil)) .nil)) (.cons 8 (.all (.cons 2 (.all (.cons 12 (.all (.cons 14 .done .nil)) .nil)) .nil)) .nil))) .nil)))) (.cons 13 (.all (.cons 2 (.all (.cons 8 (.all (.cons 11 (.all (.cons 12 (.all (.cons 14 .done .nil)) .nil)) .nil)) (.cons 11 (.all (.cons 8 (.all (.cons 12 (.all (.cons 14 .done .nil)) .nil)) .nil)) .nil))) (.cons 8 (.all (.cons 2 (.all (.cons 11 (.all (.cons 12 (.all (.cons 14 .done .nil)) .nil)) .nil)) (.cons 11 (.all (.cons 2 (.all (.cons 12 (.all (.cons 14 .done .nil)) .nil)) .nil)) .nil))) (.cons 11 (.all (.cons 2 (.all (.cons 8 (.all (.cons 12 (.all (.cons 14 .done .nil)) .nil)) .nil)) (.cons 8 (.all (.cons 2 (.all (.cons 12 (.all (.cons 14 .done .nil)) .nil)) .nil)) .nil))) .nil)))) .nil))))) (.cons 8 (.all (.cons 2 (.all (.cons 5 (.all (.cons 11 (.all (.cons 12 (.all (.cons 13 (.all (.cons 14 .done .nil)) .nil)) (.cons 13 (.all (.cons 12 (.all (.cons 14 .done .nil)) .nil)) .nil))) (.cons 13 (.all (.cons 11 (.all (.cons 12 (.all (.cons 14 .done .nil)) .nil)) .nil)) .nil))) (.cons 11 (.all (.cons 5 (.all (.cons 12 (.all (.cons 13 (.all (.cons 14 .done .nil)) .nil)) (.cons 13 (.all (.cons 12 (.all (.cons 14 .done .nil)) .nil)) .nil))) (.cons 13 (.all (.cons 5 (.all (.cons 12 (.all (.cons 14 .done .nil)) .nil)) .nil)) .nil))) (.cons 13 (.all (.cons 5 (.all (.cons 11 (.all (.cons 12 (.all (.cons 14 .done .nil)) .nil)) .nil)) (.cons 11 (.all (.cons 5 (.all (.cons 12 (.all (.cons 14 .done .nil)) .nil)) .nil)) .nil))) .nil)))) (.cons 5 (.all (.cons 2 (.all (.cons 11 (.all (.cons 12 (.all (.cons 13 (.all (.cons 14 .done .nil)) .nil)) (.cons 13 (.all (.cons 12 (.all (.cons 14 .done .nil)) .nil)) .nil))) (.cons 13 (.all (.cons 11 (.all (.cons 12 (.all (.cons 14 .done .nil)) .nil)) .nil)) .nil))) (.cons 11 (.all (.cons 2 (.all (.cons 12 (.all (.cons 13 (.all (.cons 14 .done .nil)) .nil)) (.cons 13 (.all (.cons 12 (.all (.cons 14 .done .nil)) .nil)) .nil))) (.cons 13 (.all (.cons 2 (.all (.cons 12 (.all (.cons 14 .done .nil)) .nil)) .nil)) .nil))) (.cons 13 (.all (.cons 2 (.all (.cons 11 (.all (.cons 12 (.all (.cons 14 .done .nil)) .nil)) .nil)) (.cons 11 (.all (.cons 2 (.all (.cons 12 (.all (.cons 14 .done .nil)) .nil)) .nil)) .nil))) .nil)))) (.cons 11 (.all (.cons 2 (.all (.cons 5 (.all (.cons 12 (.all (.cons 13 (.all (.cons 14 .done .nil)) .nil)) (.cons 13 (.all (.cons 12 (.all (.cons 14 .done .nil)) .nil)) .nil))) (.cons 13 (.all (.cons 5 (.all (.cons 12 (.all (.cons 14 .done .nil)) .nil)) .nil)) .nil))) (.cons 5 (.all (.cons 2 (.all (.cons 12 (.all (.cons 13 (.all (.cons 14 .done .nil)) .nil)) (.cons 13 (.all (.cons 12 (.all (.cons 14 .done .nil)) .nil)) .nil))) (.cons 13 (.all (.cons 2 (.all (.cons 12 (.all (.cons 14 .done .nil)) .nil)) .nil)) .nil))) (.cons 13 (.all (.cons 2 (.all (.cons 5 (.all (.cons 12 (.all (.cons 14 .done .nil)) .nil)) .nil)) (.cons 5 (.all (.cons 2 (.all (.cons 12 (.all (.cons 14 .done .nil)) .nil)) .nil)) .nil))) .nil)))) (.cons 13 (.all (.cons 2 (.all (.cons 5 (.all (.cons 11 (.all (.cons 12 (.all (.cons 14 .done .nil)) .nil)) .nil)) (.cons 11 (.all (.cons 5 (.all (.cons 12 (.all (.cons 14 .done .nil)) .nil)) .nil)) .nil))) (.cons 5 (.all (.cons 2 (.all (.cons 11 (.all (.cons 12 (.all (.cons 14 .done .nil)) .nil)) .nil)) (.cons 11 (.all (.cons 2 (.all (.cons 12 (.all (.cons 14 .done .nil)) .nil)) .nil)) .nil))) (.cons 11 (.all (.cons 2 (.all (.cons 5 (.all (.cons 12 (.all (.cons 14 .done .nil)) .nil)) .nil)) (.cons 5 (.all (.cons 2 (.all (.cons 12 (.all (.cons 14 .done .nil)) .nil)) .nil)) .nil))) .nil)))) .nil))))) (.cons 11 (.all (.cons 2 (.all (.cons 5 (.all (.cons 8 (.all (.cons 12 (.all (.cons 13 (.all (.cons 14 .done .nil)) .nil)) (.cons 13 (.all (.cons 12 (.all (.cons 14 .done .nil)) .nil)) .nil))) (.cons 13 (.all (.cons 8 (.all (.cons 12 (.all (.cons 14 .done .nil)) .nil)) .nil)) .nil))) (.cons 8 (.all (.cons 5 (.all (.cons 12 (.all (.cons 13 (.all (.cons 14 .done .nil)) .nil)) (.cons 13 (.all (.cons 12 (.all (.cons 14 .done .nil)) .nil)) .nil))) (.cons 13 (.all (.cons 5 (.all (.cons 12 (.all (.cons 14 .done .nil)) .nil)) .nil)) .nil))) (.cons 13 (.all (.cons 5 (.all (.cons 8 (.all (.cons 12 (.all (.cons 14 .done .nil)) .nil)) .nil)) (.cons 8 (.all (.cons 5 (.all (.cons 12 (.all (.cons 14 .done .nil)) .nil)) .nil)) .nil))) .nil)))) (.cons 5 (.all (.cons 2 (.all (.cons 8 (.all (.cons 12 (.all (.cons 13 (.all (.cons 14 .done .nil)) .nil)) (.cons 13 (.all (.cons 12 (.all (.cons 14 .done .nil)) .nil)) .nil))) (.cons 13 (.all (.cons 8 (.all (.cons 12 (.all (.cons 14 .done .nil)) .nil)) .nil)) .nil))) (.cons 8 (.all (.cons 2 (.all (.cons 12 (.all (.cons 13 (.all (.cons 14 .done .nil)) .nil)) (.cons 13 (.all (.cons 12 (.all (.cons 14 .done .nil)) .nil)) .nil))) (.cons 13 (.all (.cons 2 (.all (.cons 12 (.all (.cons 14 .done .nil)) .nil)) .nil)) .nil))) (.cons 13 (.all (.cons 2 (.all (.cons 8 (.all (.cons 12 (.all (.cons 14 .done .nil)) .nil)) .nil)) (.cons 8 (.all (.cons 2 (.all (.cons 12 (.all (.cons 14 .done .nil)) .nil)) .nil)) .nil))) .nil)))) (.cons 8 (.all (.cons 2 (.all (.cons 5 (.all (.cons 12 (.all (.cons 13 (.all (.cons 14 .done .nil)) .nil)) (.cons 13 (.all (.cons 12 (.all (.cons 14 .done .nil)) .nil)) .nil))) (.cons 13 (.all (.cons 5 (.all (.cons 12 (.all (.cons 14 .done .nil)) .nil)) .nil)) .nil))) (.cons 5 (.all (.cons 2 (.all (.cons 12 (.all (.cons 13 (.all (.cons 14 .done .nil)) .nil)) (.cons 13 (.all (.cons 12 (.all (.cons 14 .done .nil)) .nil)) .nil))) (.cons 13 (.all (.cons 2 (.all (.cons 12 (.all (.cons 14 .done .nil)) .nil)) .nil)) .nil))) (.cons 13 (.all (.cons 2 (.all (.cons 5 (.all (.cons 12 (.all (.cons 14 .done .nil)) .nil)) .nil)) (.cons 5 (.all (.cons 2 (.all (.cons 12 (.all (.cons 14 .done .nil)) .nil)) .nil)) .nil))) .nil)))) (.cons 13 (.all (.cons 2 (.all (.cons 5 (.all (.cons 8 (.all (.cons 12 (.all (.cons 14 .done .nil)) .nil)) .nil)) (.cons 8 (.all (.cons 5 (.all (.cons 12 (.all (.cons 14 .done .nil)) .nil)) .nil)) .nil))) (.cons 5 (.all (.cons 2 (.all (.cons 8 (.all (.cons 12 (.all (.cons 14 .done .nil)) .nil)) .nil)) (.cons 8 (.all (.cons 2 (.all (.cons 12 (.all (.cons 14 .done .nil)) .nil)) .nil)) .nil))) (.cons 8 (.all (.cons 2 (.all (.cons 5 (.all (.cons 12 (.all (.cons 14 .done .nil)) .nil)) .nil)) (.cons 5 (.all (.cons 2 (.all (.cons 12 (.all (.cons 14 .done .nil)) .nil)) .nil)) .nil))) .nil)))) .nil))))) (.cons 13 (.all (.cons 2 (.all (.cons 5 (.all (.cons 8 (.all (.cons 11 (.all (.cons 12 (.all (.cons 14 .done .nil)) .nil)) .nil)) (.cons 11 (.all (.cons 8 (.all (.cons 12 (.all (.cons 14 .done .nil)) .nil)) .nil)) .nil))) (.cons 8 (.all (.cons 5 (.all (.cons 11 (.all (.cons 12 (.all (.cons 14 .done .nil)) .nil)) .nil)) (.cons 11 (.all (.cons 5 (.all (.cons 12 (.all (.cons 14 .done .nil)) .nil)) .nil)) .nil))) (.cons 11 (.all (.cons 5 (.all (.cons 8 (.all (.cons 12 (.all (.cons 14 .done .nil)) .nil)) .nil)) (.cons 8 (.all (.cons 5 (.all (.cons 12 (.all (.cons 14 .done .nil)) .nil)) .nil)) .nil))) .nil)))) (.cons 5 (.all (.cons 2 (.all (.cons 8 (.all (.cons 11 (.all (.cons 12 (.all (.cons 14 .done .nil)) .nil)) .nil)) (.cons 11 (.all (.cons 8 (.all (.cons 12 (.all (.cons 14 .done .nil)) .nil)) .nil)) .nil))) (.cons 8 (.all (.cons 2 (.all (.cons 11 (.all (.cons 12 (.all (.cons 14 .done .nil)) .nil)) .nil)) (.cons 11 (.all (.cons 2 (.all (.cons 12 (.all (.cons 14 .done .nil)) .nil)) .nil)) .nil))) (.cons 11 (.all (.cons 2 (.all (.cons 8 (.all (.cons 12 (.all (.cons 14 .done .nil)) .nil)) .nil)) (.cons 8 (.all (.cons 2 (.all (.cons 12 (.all (.cons 14 .done .nil)) .nil)) .nil)) .nil))) .nil)))) (.cons 8 (.all (.cons 2 (.all (.cons 5 (.all (.cons 11 (.all (.cons 12 (.all (.cons 14 .done .nil)) .nil)) .nil)) (.cons 11 (.all (.cons 5 (.all (.cons 12 (.all (.cons 14 .done .nil)) .nil)) .nil)) .nil))) (.cons 5 (.all (.cons 2 (.all (.cons 11 (.all (.cons 12 (.all (.cons 14 .done .nil)) .nil)) .nil)) (.cons 11 (.all (.cons 2 (.all (.cons 12 (.all (.cons 14 .done .nil)) .nil)) .nil)) .nil))) (.cons 11 (.all (.cons 2 (.all (.cons 5 (.all (.cons 12 (.all (.cons 14 .done .nil)) .nil)) .nil)) (.cons 5 (.all (.cons 2 (.all (.cons 12 (.all (.cons 14 .done .nil)) .nil)) .nil)) .nil))) .nil)))) (.cons 11 (.all (.cons 2 (.all (.cons 5 (.all (.cons 8 (.all (.cons 12 (.all (.cons 14 .done .nil)) .nil)) .nil)) (.cons 8 (.all (.cons 5 (.all (.cons 12 (.all (.cons 14 .done .nil)) .nil)) .nil)) .nil))) (.cons 5 (.all (.cons 2 (.all (.cons 8 (.all (.cons 12 (.all (.cons 14 .done .nil)) .nil)) .nil)) (.cons 8 (.all (.cons 2 (.all (.cons 12 (.all (.cons 14 .done .nil)) .nil)) .nil)) .nil))) (.cons 8 (.all (.cons 2 (.all (.cons 5 (.all (.cons 12 (.all (.cons 14 .done .nil)) .nil)) .nil)) (.cons 5 (.all (.cons 2 (.all (.cons 12 (.all (.cons 14 .done .nil)) .nil)) .nil)) .nil))) .nil)))) .nil))))) .nil)))))))))))))))] f24_at rfl (by kernel_rfl) rfl (by kernel_rfl) rfl (fun i h => by cases h) rfl ?_
  intro hok
  simp only [go_sem] at hok
  simp only [Tryd.f24, Func.code, Option.getD_some]
  simp only [go_sem]
  refine call_lend ?_
  simp only [go_sem]
  refine callN.eq (ok48 s hs) (by simp only [go_sem]) ?_
  simp only [go_sem]
  have hln : (wordsB s).length ≤ s.size + 1 := (wordsN_le s (s.size + 1)).2
  have hw : ∀ m : Mv, m.ok = true → m.sh = s → wordsB s = [itoaB m.src, itoaB m.dst, itoaB m.sum, itoaB m.cnt] := fun m h e => by rw [← e]; exact Mv.sh_wds h
  refine vm_loopK (α := Nat × List Int) (fun q => [(0, .lit (.string s)), (2, .ptr true mv0.enc), (3, .lit (.bool false)), (4, .lst true 1 ((wordsB s).map strA)), (5, .lst true 1 (q.2.map intA)), (6, .lit (.int .i64 q.1))]) (fun q => (q.1 ≤ (wordsB s).length ∧ q.2.length = q.1) ∧ areN (wordsB s) q.2) (fun q => (wordsB s).length - q.1) (0, []) ?_ ⟨⟨by simp, rfl⟩, areN.nil⟩ (by kernel_rfl) (fun _ => rfl) ?_
  · simp only [go_sem]
    exact ⟨⟨rfl, rfl, rfl, rfl⟩, rfl⟩
  · rintro ⟨i, ns⟩ ⟨⟨hi, hl⟩, hn⟩ hk
    simp only at hi hl hn
    simp only [go_sem]
    intro hm
    first | refine branch_ndec (fun h6 => ?_) (fun h6 => ?_) | refine branch_dec (fun h6 => ?_) (fun h6 => ?_) | refine branch_nbool (fun h6 => ?_) (fun h6 => ?_) | refine branch_split (fun h6 => ?_) (fun h6 => ?_)
    · have hlt : i < (wordsB s).length := by omega
      have h0 : (0 : Int) ≤ (i : Int) := by omega
      have hw3 : IntKind.i64.wrap ((i : Int) + 1) = ((i + 1 : Nat) : Int) := by rw [wrap64 (by omega) (by omega)]; omega
      simp only [go_sem, h0, hlt, h6]
      refine call_lend ?_
      simp only [go_sem]
      refine callN.use (okN49 ((wordsB s).getD i default)) ?_
      rintro _ _ ⟨n, b, rfl, hnn, hbb⟩
      refine ⟨by simp only [go_sem], ?_⟩
      simp only [go_sem]
      cases b
      · have : rdM s = none := rdM_word hw hlt fun k hk2 he => by cases hbb k hk2 he
        rw [this]
        simp only [go_sem]
        rfl
      simp only [go_sem]
      refine ⟨by omega, ?_⟩
      rw [hw3]
      refine again_intro (i + 1, ns ++ [n]) ⟨⟨by simp only; omega, by simp only [List.length_append, List.length_cons, List.length_nil]; omega⟩, areN.app hn (by rw [hl]; exact hnn)⟩ (by simp only; omega) ?_
      simp only [go_sem]
      try exact ⟨rfl, rfl⟩
    · have hie : i = (wordsB s).length := by omega
      subst hie
      simp only [go_sem]
      intro _
      by_cases h4 : (ns.length : Int) = 4
      rotate_left
      · have : rdM s = none := rdM_len hw (by omega)
        rw [this]
        simp only [go_sem, h4]
        rfl
      have l0 : (0 : Int) < (ns.length : Int) := by omega
      have l1 : (1 : Int) < (ns.length : Int) := by omega
      have l2 : (2 : Int) < (ns.length : Int) := by omega
      have l3 : (3 : Int) < (ns.length : Int) := by omega
      have n0 : 0 < ns.length := by omega
      have n1 : 1 < ns.length := by omega
      have n2 : 2 < ns.length := by omega
      have n3 : 3 < ns.length := by omega
      simp only [go_sem, eq_true h4, l0, l1, l2, l3, n0, n1, n2, n3]
      have hns : ns = [ns.getD 0 default, ns.getD 1 default, ns.getD 2 default, ns.getD 3 default] := list_four (by omega)
      have hend := rdM_end hw hn hns
      refine call_lend ?_
      simp only [go_sem]
      refine callN.eq (ok25 ⟨ns.getD 0 default, ns.getD 1 default, ns.getD 2 default, ns.getD 3 default⟩) (by simp only [go_sem]) ?_
      simp only [go_sem]
      by_cases g : (⟨ns.getD 0 default, ns.getD 1 default, ns.getD 2 default, ns.getD 3 default⟩ : Mv).sh = s
      · by_cases hs0 : s = ⟨#[]⟩
        · exfalso
          subst hs0
          have : (wordsB ⟨#[]⟩).length ≤ 1 := (wordsN_le ⟨#[]⟩ 1).2
          omega
        rw [hend.1 g hs0]
        simp only [go_sem, eq_true g]
        rfl
      · rw [hend.2 g]
        simp only [go_sem, g]
        rfl
end Go.VS
