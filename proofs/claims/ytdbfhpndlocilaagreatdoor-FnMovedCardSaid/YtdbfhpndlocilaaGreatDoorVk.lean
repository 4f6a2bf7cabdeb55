/- VS: functions by the machine. -/
import Derived.Test.YtdbfhpndlocilaaGreatDoorVi
import Derived.Test.YtdbfhpndlocilaaGreatDoorVj
set_option linter.unusedSimpArgs false
set_option linter.unusedVariables false
open Go.Proofs Go.RowKit
set_option maxRecDepth 20000
namespace Go.VS
theorem f35_at : gz.P.funcs[35]? = some Tryz.f35 := by
  have h : Tryz.prog.funcs[35]? = some Tryz.f35 := by kernel_rfl
  exact h
def Bnk.sml (b : Bnk) : Prop := b.money.length ≤ 8 ∧ b.counts.length ≤ 8
theorem Bnk.new_ok : Bnk.ok ⟨List.replicate 8 1000, List.replicate 8 0⟩ = true := by decide
set_option maxHeartbeats 4000000 in
theorem ok35 (c : Cur) (hc : 0 ≤ c.i) : VCalls gz 35 [.ptr true c.enc] (some 0) (fun y x' => ∃ (b : Bnk) (o : Bool) (i h : Int), y = b.enc o ∧ b.sml ∧ 0 ≤ i ∧ x' = (Cur.mk c.b i h).enc) := by
  refine VCalls.go (nt := 52) (keep := [0, 2, 3, 4, 9, 22, 24, 25, 35, 45]) (muts := [0]) (mvs := [14,2013,2015,2048]) [(5, .tree false (.take 1 (.all (.cons 0 (.all (.cons 2 (.all (.cons 3 (.all (.cons 4 (.all (.cons 5 (.take 6 (.take 7 (.take 8 (.all (.cons 9 .done .nil))))) .nil)) .nil)) .nil)) .nil)) (.cons 2 (.all (.cons 0 (.all (.cons 3 (.all (.cons 4 (.all (.cons 5 (.take 6 (.take 7 (.take 8 (.all (.cons 9 .done .nil))))) .nil)) .nil)) .nil)) (.cons 3 (.all (.cons 0 (.all (.cons 4 (.all (.cons 5 (.take 6 (.take 7 (.take 8 (.all (.cons 9 .done .nil))))) .nil)) .nil)) (.cons 4 (.all (.cons 0 (.all (.cons 5 (.take 6 (.take 7 (.take 8 (.all (.cons 9 .done .nil))))) .nil)) .nil)) .nil))) .nil))) .nil))))), (9, .tree false (.take 0 (.take 3 (.all (.cons 1 (.all (.cons 2 (.all (.cons 4 (.take 5 (.all (.cons 6 (.take 7 (.all (.cons 8 .done .nil))) .nil))) .nil)) (.cons 4 (.all (.cons 2 (.take 5 (.all (.cons 6 (.take 7 (.all (.cons 8 .done .nil))) .nil))) .nil)) .nil))) (.cons 2 (.all (.cons 1 (.all (.cons 4 (.take 5 (.all (.cons 6 (.take 7 (.all (.cons 8 .done .nil))) .nil))) .nil)) (.cons 4 (.take 5 (.all (.cons 1 (.all (.cons 6 (.take 7 (.all (.cons 8 .done .nil))) .nil)) (.cons 6 (.all (.cons 1 (.take 7 (.all (.cons 8 .done .nil))) .nil)) .nil)))) .nil))) (.cons 4 (.all (.cons 1 (.all (.cons 2 (.take 5 (.all (.cons 6 (.take 7 (.all (.cons 8 .done .nil))) .nil))) .nil)) (.cons 2 (.take 5 (.all (.cons 1 (.all (.cons 6 (.take 7 (.all (.cons 8 .done .nil))) .nil)) (.cons 6 (.all (.cons 1 (.take 7 (.all (.cons 8 .done .nil))) .nil)) .nil)))) .nil))) .nil))))))), (11, .tree false (.take 0 (.take 3 (.all (.cons 1 (.all (.cons 2 (.all (.cons 4 (.take 5 (.all (.cons 6 (.take 7 (.all (.cons 8 .done .nil))) .nil))) .nil)) (.cons 4 (.all (.cons 2 (.take 5 (.all (.cons 6 (.take 7 (.all (.cons 8 .done .nil))) .nil))) .nil)) .nil))) (.cons 2 (.all (.cons 1 (.all (.cons 4 (.take 5 (.all (.cons 6 (.take 7 (.all (.cons 8 .done .nil))) .nil))) .nil)) (.cons 4 (.take 5 (.all (.cons 1 (.all (.cons 6 (.take 7 (.all (.cons 8 .done .nil))) .nil)) (.cons 6 (.all (.cons 1 (.take 7 (.all (.cons 8 .done .nil))) .nil)) .nil)))) .nil))) (.cons 4 (.all (.cons 1 (.all (.cons 2 (.take 5 (.all (.cons 6 (.take 7 (.all (.cons 8 .done .nil))) .nil))) .nil)) (.cons 2 (.take 5 (.all (.cons 1 (.all (.cons 6 (.take 7 (.all (.cons 8 .done .nil))) .nil)) (.cons 6 (.all (.cons 1 (.take 7 (.all (.cons 8 .done .nil))) .nil)) .nil)))) .nil))) .nil)))))))] f35_at rfl (by kernel_rfl) rfl (by kernel_rfl) rfl (fun i h => by cases h; exact ⟨rfl, by simp⟩) rfl ?_
  intro hok
  simp only [go_sem] at hok
  simp only [Tryz.f35, Func.code, Option.getD_some]
  simp only [go_sem]
  refine call_lend ?_
  simp only [go_sem]
  refine callN.eq (ok21) (by simp only [go_sem]) ?_
  simp only [go_sem]
  refine call_mut 0 0 rfl rfl rfl (by simp only [go_sem]) ?_
  simp only [go_sem, List.set]
  refine callM.use ((ok41 c hc 6)) ?_
  rintro _ _ ⟨k1, i1, e1, rfl, p1, p2, p3, p4, rfl⟩
  simp only [go_sem]
  obtain ⟨B0, hB0⟩ : ∃ B : Bnk, B = ⟨List.replicate 8 1000, List.replicate 8 0⟩ := ⟨_, rfl⟩
  refine vm_loopK (α := Nat × Bnk × Int × Int) (fun q => [(0, .ptr true (Cur.mk c.b q.2.2.1 q.2.2.2).enc), (2, .ptr true (Bnk.enc true ⟨[], []⟩)), (3, .ptr true (q.2.1.enc true)), (4, .lit (.int .i64 q.1))]) (fun q => q.1 ≤ 6 ∧ q.2.1.ok = true ∧ 0 ≤ q.2.2.1) (fun q => q.1) (k1.toNat, B0, i1, e1) ?_ ⟨by simp only; omega, by show Bnk.ok B0 = true; rw [hB0]; exact Bnk.new_ok, p4⟩ (by kernel_rfl) (fun _ => rfl) ?_
  · subst hB0
    simp only [go_sem]
    omega
  · rintro ⟨n, B, j, h⟩ ⟨hn, hB, hj⟩ hk
    simp only at hn hB hj
    have hB1 := (Bnk.ok_len hB).1
    have hB2 := (Bnk.ok_len hB).2
    simp only [go_sem]
    first | refine branch_ndec (fun h6 => ?_) (fun h6 => ?_) | refine branch_dec (fun h6 => ?_) (fun h6 => ?_) | refine branch_nbool (fun h6 => ?_) (fun h6 => ?_) | refine branch_split (fun h6 => ?_) (fun h6 => ?_)
    · have hw3 : IntKind.i64.wrap ((n : Int) - 1) = ((n - 1 : Nat) : Int) := by rw [wrap64 (by omega) (by omega)]; omega
      have ha : ∀ s : ByteArray, (B.ans [s]).1.ok = true := fun s => by
        have : B.ans [s] = B.run [s] [s].length := if_pos hB
        rw [this]
        exact (Bnk.run_ok hB [s] _).1
      simp only [go_sem]
      repeat' refine And.intro ?_ ?_
      all_goals
        refine call_mut 0 0 rfl rfl rfl (by simp only [go_sem]) ?_
        simp only [go_sem, List.set]
        refine callM.use ((ok43 (Cur.mk c.b j h) hj B)) ?_
        rintro _ _ ⟨s, i2, e2, rfl, s1, s2, rfl⟩
        simp only [go_sem]
        repeat' refine And.intro ?_ ?_
        all_goals
          refine call_lend ?_
          simp only [go_sem]
          refine callN.eq (ok16 B [s] (by omega) (by omega) (by simp) (fun x hx => by rw [List.mem_singleton.1 hx]; omega)) (by simp only [go_sem]) ?_
          simp only [go_sem]
          have hl2 := Bnk.ok_len (ha s)
          try simp only [go_sem]
          refine again_intro (n - 1, (B.ans [s]).1, i2, e2) ⟨by simp only; omega, ha s, s2⟩ (by simp only; omega) ?_
          simp only [go_sem, hw3]
          try trivial
    · simp only [go_sem]
      refine call_mut 0 0 rfl rfl rfl (by simp only [go_sem]) ?_
      simp only [go_sem, List.set]
      refine callM.use ((ok38 (Cur.mk c.b j h) hj 12)) ?_
      rintro _ _ ⟨b5, i5, e5, rfl, u1, rfl⟩
      simp only [go_sem]
      cases b5
      · simp only [go_sem]
        exact ⟨B, true, _, _, ⟨⟨rfl, rfl⟩, rfl, rfl⟩, ⟨by omega, by omega⟩, u1, rfl, rfl⟩
      simp only [go_sem]
      refine call_mut 0 0 rfl rfl rfl (by simp only [go_sem]) ?_
      simp only [go_sem, List.set]
      refine callM.use ((ok41 (Cur.mk c.b i5 e5) u1 3)) ?_
      rintro _ _ ⟨k6, i6, e6, rfl, v1, v2, v3, v4, rfl⟩
      simp only [go_sem]
      by_cases g0 : k6 = 0
      · simp only [go_sem, eq_true g0]
        repeat' refine And.intro ?_ ?_
        all_goals
          refine call_mut 0 0 rfl rfl rfl (by simp only [go_sem]) ?_
          simp only [go_sem, List.set]
          refine callM.use ((ok41 (Cur.mk c.b i6 e6) v4 4)) ?_
          rintro _ _ ⟨kk, i7, e7, rfl, w1, w2, w3, w4, rfl⟩
          simp only [go_sem]
          have w5 := w2 (by decide)
          obtain rfl | rfl | rfl | rfl : kk = 0 ∨ kk = 1 ∨ kk = 2 ∨ kk = 3 := by omega
          all_goals
            try simp only [go_sem, hB1]
            exact ⟨by decide, by decide, ⟨List.take 8 (B.money.set 0 _), B.counts⟩, true, i7, e7, ⟨⟨rfl, rfl⟩, rfl, rfl⟩, ⟨by simp only [List.length_take]; omega, Nat.le_of_eq hB2⟩, w4, rfl, rfl⟩
      simp only [go_sem, g0]
      by_cases g1 : k6 = 1
      · simp only [go_sem, eq_true g1]
        repeat' refine And.intro ?_ ?_
        all_goals
          refine call_mut 0 0 rfl rfl rfl (by simp only [go_sem]) ?_
          simp only [go_sem, List.set]
          refine callM.use ((ok41 (Cur.mk c.b i6 e6) v4 3)) ?_
          rintro _ _ ⟨kk, i7, e7, rfl, w1, w2, w3, w4, rfl⟩
          simp only [go_sem]
          have w5 := w2 (by decide)
          obtain rfl | rfl | rfl : kk = 0 ∨ kk = 1 ∨ kk = 2 := by omega
          all_goals
            try simp only [go_sem, hB2]
            exact ⟨by decide, by decide, ⟨B.money, List.take 8 (B.counts.set 1 _)⟩, true, i7, e7, ⟨⟨rfl, rfl⟩, rfl, rfl⟩, ⟨Nat.le_of_eq hB1, by simp only [List.length_take]; omega⟩, w4, rfl, rfl⟩
      simp only [go_sem, g1]
      have g2 : k6 = 2 := by omega
      simp only [go_sem, eq_true g2, hB1]
      exact ⟨by decide, by decide, ⟨List.take 7 (List.drop 1 B.money), B.counts⟩, false, i6, e6, ⟨⟨rfl, rfl⟩, rfl, rfl⟩, ⟨by simp only [List.length_take]; omega, Nat.le_of_eq hB2⟩, v4, rfl, rfl⟩
end Go.VS
set_option linter.unusedSimpArgs false
set_option linter.unusedVariables false
open Go.Proofs
set_option maxRecDepth 20000
namespace Go.VS
theorem strOfA_nil : strOfA [] = some [] := nr rfl
attribute [go_sem] strOfA_nil
end Go.VS
set_option linter.unusedSimpArgs false
set_option linter.unusedVariables false
open Go.Proofs Go.RowKit
set_option maxRecDepth 20000
namespace Go.VS
theorem f8_at : gz.P.funcs[8]? = some Tryz.f8 := by
  have h : Tryz.prog.funcs[8]? = some Tryz.f8 := by kernel_rfl
  exact h
set_option maxHeartbeats 2000000 in
theorem ok8 (l : List UInt8) : VCalls gz 8 [.lst false 1 (l.map byteA)] none (fun y _ => ∃ (b : Bnk) (ms : List ByteArray), y = .tup [b.enc false, .lst true 1 (ms.map strA)] ∧ b.sml ∧ ms.length ≤ 6 ∧ ∀ s ∈ ms, s.size ≤ 200) := by
  refine VCalls.go (nt := 48) (keep := [0, 2, 3, 4, 5, 6, 7, 8, 9, 19, 31]) (muts := []) (mvs := [13,2014,2033,2036,2046]) [] f8_at rfl (by kernel_rfl) rfl (by kernel_rfl) rfl (fun i h => by cases h) rfl ?_
  intro hok
  simp only [go_sem] at hok
  simp only [Tryz.f8, Func.code, Option.getD_some]
  simp only [go_sem]
  refine call_share ?_
  simp only [go_sem]
  refine callS.use (ok34 l) ?_
  rintro _ _ ⟨h0, rfl⟩
  simp only [go_sem]
  refine call_mut 0 4 rfl rfl rfl (by simp only [go_sem]) ?_
  simp only [go_sem, List.set]
  refine callM.use (ok35 (Cur.mk l 0 h0) (Int.le_refl 0)) ?_
  rintro _ _ ⟨B0, o0, i1, e1, rfl, ⟨s1, s2⟩, p1, rfl⟩
  cases o0
  all_goals
    simp only [go_sem]
    refine call_mut 0 4 rfl rfl rfl (by simp only [go_sem]) ?_
    simp only [go_sem, List.set]
    refine callM.use ((ok41 (Cur.mk l i1 e1) p1 6)) ?_
    rintro _ _ ⟨k2, i2, e2, rfl, q1, q2, q3, q4, rfl⟩
    simp only [go_sem]
    have q5 := q2 (by decide)
    refine vm_loopK (α := Nat × (Bnk × Bool) × List ByteArray × Int × Int) (fun q => [(2, .ptr true (Bnk.enc true ⟨[], []⟩)), (4, .ptr true (Cur.mk l q.2.2.2.1 q.2.2.2.2).enc), (5, .ptr true (B0.enc false)), (6, .ptr true (q.2.1.1.enc q.2.1.2)), (7, .lst true 1 (q.2.2.1.map strA)), (8, .lit (.int .i64 q.1))]) (fun q => q.1 + q.2.2.1.length ≤ 6 ∧ q.2.1.1.sml ∧ (∀ s ∈ q.2.2.1, s.size ≤ 200) ∧ 0 ≤ q.2.2.2.1) (fun q => q.1) (k2.toNat, (B0, false), [], i2, e2) ?_ ⟨by simp only [List.length_nil]; omega, ⟨s1, s2⟩, by simp, q4⟩ (by kernel_rfl) (fun _ => rfl) ?_
    · simp only [go_sem]
      omega
    · rintro ⟨n, ⟨B, o⟩, ms, j, h⟩ ⟨hn, ⟨hB1, hB2⟩, hms, hj⟩ hk
      simp only at hn hB1 hB2 hms hj
      cases o
      case' false =>
        simp only [go_sem]
        first | refine branch_ndec (fun h6 => ?_) (fun h6 => ?_) | refine branch_dec (fun h6 => ?_) (fun h6 => ?_) | refine branch_nbool (fun h6 => ?_) (fun h6 => ?_) | refine branch_split (fun h6 => ?_) (fun h6 => ?_)
        rotate_left
        · simp only [go_sem]
          exact ⟨B0, ms, ⟨⟨rfl, rfl⟩, rfl⟩, ⟨s1, s2⟩, by omega, hms⟩
        have hw3 : IntKind.i64.wrap ((n : Int) - 1) = ((n - 1 : Nat) : Int) := by rw [wrap64 (by omega) (by omega)]; omega
        simp only [go_sem]
        refine call_mut 0 4 rfl rfl rfl (by simp only [go_sem]) ?_
        simp only [go_sem, List.set]
        refine callM.use ((ok36 (Cur.mk l j h) hj)) ?_
        rintro _ _ ⟨m, i3, e3, rfl, r1, rfl⟩
        simp only [go_sem]
        refine call_lend ?_
        simp only [go_sem]
        refine callN.eq (ok42 m) (by simp only [go_sem]) ?_
        simp only [go_sem]
        have hs := Mv.sh_size m
        refine call_mut 0 4 rfl rfl rfl (by simp only [go_sem]) ?_
        simp only [go_sem, List.set]
        refine callM.use ((ok38 (Cur.mk l i3 e3) r1 3)) ?_
        rintro _ _ ⟨b4, i4, e4, rfl, r2, rfl⟩
        simp only [go_sem]
        cases b4
        · simp only [go_sem]
          refine call_lend ?_
          simp only [go_sem]
          refine callN.eq (ok13 B) (by simp only [go_sem]) ?_
          simp only [go_sem]
          cases hok : B.ok
          · simp only [go_sem]
            refine ⟨by omega, ?_⟩
            refine again_intro (n - 1, (B, false), ms ++ [m.sh], i4, e4) ⟨by simp only [List.length_append, List.length_cons, List.length_nil]; omega, ⟨hB1, hB2⟩, fun s hs => by rcases List.mem_append.1 hs with h9 | h9; exact hms s h9; rw [List.mem_singleton.1 h9]; omega, r2⟩ (by simp only; omega) ?_
            simp only [go_sem, hw3, List.map_append, List.map_cons, List.map_nil]
            try trivial
          · have ha : ∀ s : ByteArray, (B.ans [s]).1.ok = true := fun s => by
              have : B.ans [s] = B.run [s] [s].length := if_pos hok
              rw [this]
              exact (Bnk.run_ok hok [s] _).1
            simp only [go_sem]
            refine call_mut 0 4 rfl rfl rfl (by simp only [go_sem]) ?_
            simp only [go_sem, List.set]
            refine callM.use ((ok43 (Cur.mk l i4 e4) r2 B)) ?_
            rintro _ _ ⟨s, i5, e5, rfl, u1, u2, rfl⟩
            simp only [go_sem]
            refine call_lend ?_
            simp only [go_sem]
            refine callN.eq (ok16 B [s] (by omega) (by omega) (by simp) (fun x hx => by rw [List.mem_singleton.1 hx]; omega)) (by simp only [go_sem]) ?_
            simp only [go_sem]
            have hl2 := Bnk.ok_len (ha s)
            try simp only [go_sem]
            refine ⟨by omega, ?_⟩
            refine again_intro (n - 1, ((B.ans [s]).1, true), ms ++ [s], i5, e5) ⟨by simp only [List.length_append, List.length_cons, List.length_nil]; omega, ⟨by simp only; omega, by simp only; omega⟩, fun x hx => by rcases List.mem_append.1 hx with h9 | h9; exact hms x h9; rw [List.mem_singleton.1 h9]; omega, u2⟩ (by simp only; omega) ?_
            simp only [go_sem, hw3, List.map_append, List.map_cons, List.map_nil]
            try trivial
        · simp only [go_sem]
          refine ⟨by omega, ?_⟩
          refine again_intro (n - 1, (B, false), ms ++ [m.sh], i4, e4) ⟨by simp only [List.length_append, List.length_cons, List.length_nil]; omega, ⟨hB1, hB2⟩, fun s hs => by rcases List.mem_append.1 hs with h9 | h9; exact hms s h9; rw [List.mem_singleton.1 h9]; omega, r2⟩ (by simp only; omega) ?_
          simp only [go_sem, hw3, List.map_append, List.map_cons, List.map_nil]
          try trivial
      case' true =>
        simp only [go_sem]
        first | refine branch_ndec (fun h6 => ?_) (fun h6 => ?_) | refine branch_dec (fun h6 => ?_) (fun h6 => ?_) | refine branch_nbool (fun h6 => ?_) (fun h6 => ?_) | refine branch_split (fun h6 => ?_) (fun h6 => ?_)
        rotate_left
        · simp only [go_sem]
          exact ⟨B0, ms, ⟨⟨rfl, rfl⟩, rfl⟩, ⟨s1, s2⟩, by omega, hms⟩
        have hw3 : IntKind.i64.wrap ((n : Int) - 1) = ((n - 1 : Nat) : Int) := by rw [wrap64 (by omega) (by omega)]; omega
        simp only [go_sem]
        refine call_mut 0 4 rfl rfl rfl (by simp only [go_sem]) ?_
        simp only [go_sem, List.set]
        refine callM.use ((ok36 (Cur.mk l j h) hj)) ?_
        rintro _ _ ⟨m, i3, e3, rfl, r1, rfl⟩
        simp only [go_sem]
        refine call_lend ?_
        simp only [go_sem]
        refine callN.eq (ok42 m) (by simp only [go_sem]) ?_
        simp only [go_sem]
        have hs := Mv.sh_size m
        refine call_mut 0 4 rfl rfl rfl (by simp only [go_sem]) ?_
        simp only [go_sem, List.set]
        refine callM.use ((ok38 (Cur.mk l i3 e3) r1 3)) ?_
        rintro _ _ ⟨b4, i4, e4, rfl, r2, rfl⟩
        simp only [go_sem]
        cases b4
        · simp only [go_sem]
          refine call_lend ?_
          simp only [go_sem]
          refine callN.eq (ok13 B) (by simp only [go_sem]) ?_
          simp only [go_sem]
          cases hok : B.ok
          · simp only [go_sem]
            refine ⟨by omega, ?_⟩
            refine again_intro (n - 1, (B, true), ms ++ [m.sh], i4, e4) ⟨by simp only [List.length_append, List.length_cons, List.length_nil]; omega, ⟨hB1, hB2⟩, fun s hs => by rcases List.mem_append.1 hs with h9 | h9; exact hms s h9; rw [List.mem_singleton.1 h9]; omega, r2⟩ (by simp only; omega) ?_
            simp only [go_sem, hw3, List.map_append, List.map_cons, List.map_nil]
            try trivial
          · have ha : ∀ s : ByteArray, (B.ans [s]).1.ok = true := fun s => by
              have : B.ans [s] = B.run [s] [s].length := if_pos hok
              rw [this]
              exact (Bnk.run_ok hok [s] _).1
            simp only [go_sem]
            refine call_mut 0 4 rfl rfl rfl (by simp only [go_sem]) ?_
            simp only [go_sem, List.set]
            refine callM.use ((ok43 (Cur.mk l i4 e4) r2 B)) ?_
            rintro _ _ ⟨s, i5, e5, rfl, u1, u2, rfl⟩
            simp only [go_sem]
            refine call_lend ?_
            simp only [go_sem]
            refine callN.eq (ok16 B [s] (by omega) (by omega) (by simp) (fun x hx => by rw [List.mem_singleton.1 hx]; omega)) (by simp only [go_sem]) ?_
            simp only [go_sem]
            have hl2 := Bnk.ok_len (ha s)
            try simp only [go_sem]
            refine ⟨by omega, ?_⟩
            refine again_intro (n - 1, ((B.ans [s]).1, true), ms ++ [s], i5, e5) ⟨by simp only [List.length_append, List.length_cons, List.length_nil]; omega, ⟨by simp only; omega, by simp only; omega⟩, fun x hx => by rcases List.mem_append.1 hx with h9 | h9; exact hms x h9; rw [List.mem_singleton.1 h9]; omega, u2⟩ (by simp only; omega) ?_
            simp only [go_sem, hw3, List.map_append, List.map_cons, List.map_nil]
            try trivial
        · simp only [go_sem]
          refine ⟨by omega, ?_⟩
          refine again_intro (n - 1, (B, true), ms ++ [m.sh], i4, e4) ⟨by simp only [List.length_append, List.length_cons, List.length_nil]; omega, ⟨hB1, hB2⟩, fun s hs => by rcases List.mem_append.1 hs with h9 | h9; exact hms s h9; rw [List.mem_singleton.1 h9]; omega, r2⟩ (by simp only; omega) ?_
          simp only [go_sem, hw3, List.map_append, List.map_cons, List.map_nil]
          try trivial
end Go.VS
set_option linter.unusedSimpArgs false
set_option linter.unusedVariables false
open Go.Proofs Go.RowKit
set_option maxRecDepth 20000
namespace Go.VS
theorem f125_at : gz.P.funcs[125]? = some Tryz.f125 := by
  have h : Tryz.prog.funcs[125]? = some Tryz.f125 := by kernel_rfl
  exact h
theorem f86_at : gz.P.funcs[86]? = some Tryz.f86 := by
  have h : Tryz.prog.funcs[86]? = some Tryz.f86 := by kernel_rfl
  exact h
theorem f52_at : gz.P.funcs[52]? = some Tryz.f52 := by
  have h : Tryz.prog.funcs[52]? = some Tryz.f52 := by kernel_rfl
  exact h
theorem f20_at : gz.P.funcs[20]? = some Tryz.f20 := by
  have h : Tryz.prog.funcs[20]? = some Tryz.f20 := by kernel_rfl
  exact h
theorem and64_1 : andI .u64 1 4294967295 = 1 := by decide
theorem and64_8 : andI .u64 8 4294967295 = 8 := by decide
theorem and64_0 : andI .u64 0 4294967295 = 0 := by decide
theorem shr64_1 : shrI .u64 1 32 = 0 := by decide
theorem shr64_8 : shrI .u64 8 32 = 0 := by decide
theorem shr64_0 : shrI .u64 0 32 = 0 := by decide
theorem wr64_8 : IntKind.u64.wrap 8 = 8 := by decide
theorem wr64_0 : IntKind.u64.wrap 0 = 0 := by decide
theorem wr64_1 : IntKind.u64.wrap 1 = 1 := by decide
theorem ok125 : VCalls gz 125 [.lit (.int .u64 1), .lit (.int .u64 8)] none (fun y _ => y = .tup [.lit (.int .u64 0), .lit (.int .u64 8)]) := by
  refine VCalls.go (nt := 51) (keep := [0, 1, 4, 5, 6, 7, 8, 9, 10, 11, 12, 13]) (muts := []) (mvs := []) [] f125_at rfl (by kernel_rfl) rfl (by kernel_rfl) rfl (fun i h => by cases h) rfl ?_
  intro hok
  simp only [go_sem] at hok
  simp only [Tryz.f125, Func.code, Option.getD_some]
  simp only [go_sem]
  simp [and64_1, and64_8, and64_0, shr64_1, shr64_8, shr64_0, wr64_8, wr64_0, wr64_1, go_sem]
theorem ok86 : VCalls gz 86 [.lit (.int .u64 1), .lit (.int .u64 8)] none (fun y _ => y = .tup [.lit (.int .u64 0), .lit (.int .u64 8)]) := by
  refine VCalls.go (nt := 30) (keep := [0, 1, 4, 5, 6, 7, 8, 9]) (muts := []) (mvs := []) [] f86_at rfl (by kernel_rfl) rfl (by kernel_rfl) rfl (fun i h => by cases h) rfl ?_
  intro hok
  simp only [go_sem] at hok
  simp only [Tryz.f86, Func.code, Option.getD_some]
  simp only [go_sem]
  refine call_lend ?_
  simp only [go_sem]
  refine callN.eq (ok125) (by simp only [go_sem]) ?_
  simp only [go_sem]
def repT : Nat → List Int
  | 1 => [1000, 0, 0, 0, 0, 0, 0, 0]
  | 2 => [1000, 1000, 0, 0, 0, 0, 0, 0]
  | 4 => [1000, 1000, 1000, 1000, 0, 0, 0, 0]
  | _ => [1000, 1000, 1000, 1000, 1000, 1000, 1000, 1000]
theorem repT1 : repT 1 = [1000, 0, 0, 0, 0, 0, 0, 0] := rfl
theorem repT2 : repT 2 = [1000, 1000, 0, 0, 0, 0, 0, 0] := rfl
theorem repT4 : repT 4 = [1000, 1000, 1000, 1000, 0, 0, 0, 0] := rfl
theorem repT8 : repT 8 = [1000, 1000, 1000, 1000, 1000, 1000, 1000, 1000] := rfl
theorem ok52 : VCalls gz 52 [.lst false 1 [.lit (.int .i64 1000)], .lit (.int .i64 8)] none (fun y _ => y = .lst true 1 ((List.replicate 8 1000).map intA)) := by
  refine VCalls.go (nt := 48) (keep := [0, 1, 4, 5, 6, 7, 8, 10, 26, 37]) (muts := []) (mvs := []) [(9, .tree false (.take 0 (.take 1 (.take 2 (.take 4 (.take 5 (.all (.cons 3 (.all (.cons 6 (.all (.cons 7 (.take 8 (.all (.cons 9 .done .nil))) .nil)) .nil)) (.cons 6 (.all (.cons 3 (.all (.cons 7 (.take 8 (.all (.cons 9 .done .nil))) .nil)) .nil)) .nil)))))))))] f52_at rfl (by kernel_rfl) rfl (by kernel_rfl) rfl (fun i h => by cases h) rfl ?_
  intro hok
  simp only [go_sem] at hok
  simp only [Tryz.f52, Func.code, Option.getD_some]
  simp only [go_sem]
  have u1 : IntKind.u64.wrap ((1 : Nat) : Int) = 1 := by decide
  have i8 : IntKind.i64.wrap 8 = 8 := by decide
  simp only [go_sem, u1, wr64_8]
  refine call_lend ?_
  simp only [go_sem]
  refine callN.eq (ok86) (by simp only [go_sem]) ?_
  simp only [go_sem]
  simp only [go_sem, i8]
  refine ⟨by decide, by decide, ?_⟩
  refine vm_loopK (α := Nat) (fun n => [(7, .lst true 1 ((repT n).map intA)), (8, .lit (.int .i64 n))]) (fun n => n = 1 ∨ n = 2 ∨ n = 4 ∨ n = 8) (fun n => 8 - n) 1 ?_ (.inl rfl) (by kernel_rfl) (fun _ => rfl) ?_
  · simp only [go_sem, repT1]
    try rfl
  · have c1 : ((1 : Nat) : Int) = 1 := rfl
    have c2 : ((2 : Nat) : Int) = 2 := rfl
    have c4 : ((4 : Nat) : Int) = 4 := rfl
    have c8 : ((8 : Nat) : Int) = 8 := rfl
    have w2 : IntKind.i64.wrap 2 = 2 := by decide
    have w4 : IntKind.i64.wrap 4 = 4 := by decide
    have wr8 : IntKind.i64.wrap 8 = 8 := by decide
    rintro n (rfl | rfl | rfl | rfl) hk
    · simp only [go_sem, repT1, c1, c8, w2, List.length_map, List.length_cons, List.length_nil, List.map_cons, List.map_nil]
      repeat' first | refine And.intro ?_ ?_ | intro _
      all_goals first | contradiction | skip
      all_goals refine again_intro 2 (by simp) (by decide) ?_
      all_goals
        simp only [go_sem, repT2, intA, c2, List.map_cons, List.map_nil, List.drop_succ_cons, List.drop_zero]
        try rfl
    · simp only [go_sem, repT2, c2, c8, w4, List.length_map, List.length_cons, List.length_nil, List.map_cons, List.map_nil]
      repeat' first | refine And.intro ?_ ?_ | intro _
      all_goals first | contradiction | skip
      all_goals refine again_intro 4 (by simp) (by decide) ?_
      all_goals
        simp only [go_sem, repT4, intA, c4, List.map_cons, List.map_nil, List.drop_succ_cons, List.drop_zero]
        try rfl
    · simp only [go_sem, repT4, c4, c8, wr8, List.length_map, List.length_cons, List.length_nil, List.map_cons, List.map_nil]
      repeat' first | refine And.intro ?_ ?_ | intro _
      all_goals first | contradiction | skip
      all_goals refine again_intro 8 (by simp) (by decide) ?_
      all_goals
        simp only [go_sem, repT8, intA, c8, List.map_cons, List.map_nil, List.drop_succ_cons, List.drop_zero]
        try rfl
    · simp only [go_sem, repT8, c8, List.length_map, List.length_cons, List.length_nil, List.map_cons, List.map_nil]
      rfl
theorem ok20 : VCalls gz 20 [] none (fun y _ => y = Bnk.enc true ⟨List.replicate 8 1000, List.replicate 8 0⟩) := by
  have e0 : List.replicate 8 (AVal.lit (Value.int IntKind.i64 0)) = List.map intA (List.replicate 8 0) := rfl
  refine VCalls.go (nt := 5) (keep := [0]) (muts := []) (mvs := []) [(1, .tree false (.all (.cons 0 (.all (.cons 1 (.all (.cons 2 (.all (.cons 3 (.all (.cons 4 .done .nil)) .nil)) .nil)) (.cons 2 (.all (.cons 1 (.all (.cons 3 (.all (.cons 4 .done .nil)) .nil)) .nil)) .nil))) (.cons 2 (.all (.cons 0 (.all (.cons 1 (.all (.cons 3 (.all (.cons 4 .done .nil)) .nil)) .nil)) .nil)) .nil))))] f20_at rfl (by kernel_rfl) rfl (by kernel_rfl) rfl (fun i h => by cases h) rfl ?_
  intro hok
  simp only [go_sem] at hok
  simp only [Tryz.f20, Func.code, Option.getD_some]
  simp only [go_sem]
  repeat' refine And.intro ?_ ?_
  all_goals
    refine call_lend ?_
    simp only [go_sem]
    refine callN.eq (ok52) (by simp only [go_sem]) ?_
    simp only [go_sem]
    try exact e0
end Go.VS
