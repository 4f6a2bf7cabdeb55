/- VS: functions by the machine. -/
import Derived.Test.YtdbfhpndlocilaaDoorVi
set_option linter.unusedSimpArgs false
set_option linter.unusedVariables false
open Go.Proofs
set_option maxRecDepth 20000
namespace Go.VS
theorem f23_at : gz.P.funcs[23]? = some Tryd.f23 := by
  have h : Tryd.prog.funcs[23]? = some Tryd.f23 := by kernel_rfl
  exact h
theorem strOfA_nil : strOfA [] = some [] := nr rfl
attribute [go_sem] strOfA_nil
set_option maxHeartbeats 2000000 in
theorem ok23 (c : Cur) (hc : 0 ≤ c.i) (s g : ByteArray) (hs : s.size ≤ 4000000) (hg : 0 < g.size) (hg2 : g.size ≤ 1000) : VCalls gz 23 [.ptr true c.enc, .lit (.string s), .lit (.string g)] (some 0) (fun y x' => ∃ t i h, y = .lit (.string t) ∧ t.size ≤ s.size + 3 ∧ 0 ≤ i ∧ x' = (Cur.mk c.b i h).enc) := by
  refine VCalls.go (nt := 78) (keep := [0, 1, 2, 6, 7, 8, 9, 20, 28, 29, 40, 45, 57]) (muts := [0]) (mvs := [10]) [(12, .tree false (.take 1 (.take 2 (.take 5 (.take 6 (.take 7 (.all (.cons 0 (.all (.cons 3 (.all (.cons 4 (.all (.cons 8 (.all (.cons 9 (.all (.cons 10 .done .nil)) .nil)) .nil)) (.cons 8 (.all (.cons 4 (.all (.cons 9 (.all (.cons 10 .done .nil)) .nil)) .nil)) .nil))) (.cons 8 (.all (.cons 3 (.all (.cons 4 (.all (.cons 9 (.all (.cons 10 .done .nil)) .nil)) .nil)) .nil)) .nil))) (.cons 3 (.all (.cons 0 (.all (.cons 4 (.all (.cons 8 (.all (.cons 9 (.all (.cons 10 .done .nil)) .nil)) .nil)) (.cons 8 (.all (.cons 4 (.all (.cons 9 (.all (.cons 10 .done .nil)) .nil)) .nil)) .nil))) (.cons 8 (.all (.cons 0 (.all (.cons 4 (.all (.cons 9 (.all (.cons 10 .done .nil)) .nil)) .nil)) .nil)) .nil))) (.cons 8 (.all (.cons 0 (.all (.cons 3 (.all (.cons 4 (.all (.cons 9 (.all (.cons 10 .done .nil)) .nil)) .nil)) .nil)) (.cons 3 (.all (.cons 0 (.all (.cons 4 (.all (.cons 9 (.all (.cons 10 .done .nil)) .nil)) .nil)) .nil)) .nil))) .nil)))))))))), (14, .tree false (.take 1 (.take 2 (.take 5 (.take 6 (.take 7 (.take 8 (.take 13 (.take 14 (.all (.cons 0 (.all (.cons 3 (.all (.cons 4 (.all (.cons 9 (.take 10 (.all (.cons 11 (.all (.cons 12 (.all (.cons 15 (.all (.cons 16 (.all (.cons 17 .done .nil)) .nil)) .nil)) (.cons 15 (.all (.cons 12 (.all (.cons 16 (.all (.cons 17 .done .nil)) .nil)) .nil)) .nil))) (.cons 15 (.all (.cons 11 (.all (.cons 12 (.all (.cons 16 (.all (.cons 17 .done .nil)) .nil)) .nil)) .nil)) .nil)))) (.cons 15 (.all (.cons 9 (.take 10 (.all (.cons 11 (.all (.cons 12 (.all (.cons 16 (.all (.cons 17 .done .nil)) .nil)) .nil)) .nil))) .nil)) .nil))) (.cons 15 (.all (.cons 4 (.all (.cons 9 (.take 10 (.all (.cons 11 (.all (.cons 12 (.all (.cons 16 (.all (.cons 17 .done .nil)) .nil)) .nil)) .nil))) .nil)) .nil)) .nil))) (.cons 15 (.all (.cons 3 (.all (.cons 4 (.all (.cons 9 (.take 10 (.all (.cons 11 (.all (.cons 12 (.all (.cons 16 (.all (.cons 17 .done .nil)) .nil)) .nil)) .nil))) .nil)) .nil)) .nil)) .nil))) (.cons 3 (.all (.cons 0 (.all (.cons 4 (.all (.cons 9 (.take 10 (.all (.cons 11 (.all (.cons 12 (.all (.cons 15 (.all (.cons 16 (.all (.cons 17 .done .nil)) .nil)) .nil)) (.cons 15 (.all (.cons 12 (.all (.cons 16 (.all (.cons 17 .done .nil)) .nil)) .nil)) .nil))) (.cons 15 (.all (.cons 11 (.all (.cons 12 (.all (.cons 16 (.all (.cons 17 .done .nil)) .nil)) .nil)) .nil)) .nil)))) (.cons 15 (.all (.cons 9 (.take 10 (.all (.cons 11 (.all (.cons 12 (.all (.cons 16 (.all (.cons 17 .done .nil)) .nil)) .nil)) .nil))) .nil)) .nil))) (.cons 15 (.all (.cons 4 (.all (.cons 9 (.take 10 (.all (.cons 11 (.all (.cons 12 (.all (.cons 16 (.all (.cons 17 .done .nil)) .nil)) .nil)) .nil))) .nil)) .nil)) .nil))) (.cons 15 (.all (.cons 0 (.all (.cons 4 (.all (.cons 9 (.take 10 (.all (.cons 11 (.all (.cons 12 (.all (.cons 16 (.all (.cons 17 .done .nil)) .nil)) .nil)) .nil))) .nil)) .nil)) .nil)) .nil))) (.cons 15 (.all (.cons 0 (.all (.cons 3 (.all (.cons 4 (.all (.cons 9 (.take 10 (.all (.cons 11 (.all (.cons 12 (.all (.cons 16 (.all (.cons 17 .done .nil)) .nil)) .nil)) .nil))) .nil)) .nil)) .nil)) (.cons 3 (.all (.cons 0 (.all (.cons 4 (.all (.cons 9 (.take 10 (.all (.cons 11 (.all (.cons 12 (.all (.cons 16 (.all (.cons 17 .done .nil)) .nil)) .nil)) .nil))) .nil)) .nil)) .nil)) .nil))) .nil)))))))))))))] f23_at rfl (by kernel_rfl) rfl (by kernel_rfl) rfl (fun i h => by cases h; exact ⟨rfl, by simp⟩) rfl ?_
  intro hok
  simp only [go_sem] at hok
  simp only [Tryd.f23, Func.code, Option.getD_some]
  simp only [go_sem]
  refine call_mut 0 0 rfl rfl rfl (by simp only [go_sem]) ?_
  simp only [go_sem, List.set]
  refine callM.use ((ok31 c hc 3)) ?_
  rintro _ _ ⟨n, i1, e1, rfl, p1, p2, p3, p4, rfl⟩
  simp only [go_sem]
  have p5 := p2 (by omega)
  refine vm_loopK (α := (Bool × List UInt8) × Int × Int × Int) (fun q => [(0, .ptr true (Cur.mk c.b q.2.2.1 q.2.2.2).enc), (2, .lit (.string g)), (7, .lst q.1.1 1 (q.1.2.map byteA)), (8, .lit (.int .i64 q.2.1))]) (fun q => (q.1.2.length : Int) + q.2.1 ≤ s.size + 2 ∧ 0 ≤ q.2.1 ∧ 0 ≤ q.2.2.1 ∧ (q.1.1 = false → q.1.2 = [])) (fun q => q.2.1.toNat) ((true, s.data.toList), n, i1, e1) ?_ ⟨by rw [← bsz]; simp only; omega, p1, p4, by simp⟩ (by kernel_rfl) (fun _ => rfl) ?_
  · simp only [go_sem]
    try trivial
  · rintro ⟨⟨own, l⟩, n, i, e⟩ ⟨q1, q2, q3, q4⟩ _
    simp only at q1 q2 q3 q4
    simp only [go_sem]
    cases own with
    | false =>
      have q5 := q4 rfl
      subst q5
      have hz : ¬ ((0 : Int) < ((0 : Nat) : Int)) := by omega
      first | refine gj_ndec (fun h => ?_) (fun h => ?_) | refine gj_dec (fun h => ?_) (fun h => ?_) | refine gj_nbool (fun h => ?_) (fun h => ?_) | refine gj_bool (fun h => ?_) (fun h => ?_)
      · simp only [go_sem, h, hz]
        exact ⟨_, _, _, rfl, by rw [size_mk]; simp, q3, rfl, rfl⟩
      · simp only [go_sem, h]
        exact ⟨_, _, _, rfl, by rw [size_mk]; simp, q3, rfl, rfl⟩
    | true =>
      first | refine gj_ndec (fun h => ?_) (fun h => ?_) | refine gj_dec (fun h => ?_) (fun h => ?_) | refine gj_nbool (fun h => ?_) (fun h => ?_) | refine gj_bool (fun h => ?_) (fun h => ?_)
      rotate_left
      · simp only [go_sem, h]
        exact ⟨_, _, _, rfl, by rw [size_mk]; omega, q3, rfl, rfl⟩
      · have hw8 : IntKind.i64.wrap (n - 1) = n - 1 := wrap64 (by omega) (by omega)
        simp only [go_sem, h]
        intro _
        first | refine branch_ndec (fun h2 => ?_) (fun h2 => ?_) | refine branch_dec (fun h2 => ?_) (fun h2 => ?_) | refine branch_nbool (fun h2 => ?_) (fun h2 => ?_) | refine branch_split (fun h2 => ?_) (fun h2 => ?_)
        rotate_left
        · simp only [go_sem]
          exact ⟨_, _, _, rfl, by rw [size_mk]; omega, q3, rfl, rfl⟩
        · simp only [go_sem]
          intro _
          refine call_mut 0 0 rfl rfl rfl (by simp only [go_sem]) ?_
          simp only [go_sem, List.set]
          refine callM.use ((ok31 (Cur.mk c.b i e) q3 (l.length : Int))) ?_
          rintro _ _ ⟨k, i2, e2, rfl, k1, k2, k3, k4, rfl⟩
          simp only [go_sem]
          have k5 := k2 (by omega)
          refine call_mut 0 0 rfl rfl rfl (by simp only [go_sem]) ?_
          simp only [go_sem, List.set]
          refine callM.use ((ok31 (Cur.mk c.b i2 e2) k4 4)) ?_
          rintro _ _ ⟨m, i3, e3, rfl, m1, m2, m3, m4, rfl⟩
          simp only [go_sem]
          have kn : k.toNat < l.length := by omega
          have kk : ((k.toNat : Nat) : Int) = k := by omega
          have hwk : IntKind.i64.wrap (k + 1) = k + 1 := wrap64 (by omega) (by omega)
          first | refine branch_ndec (fun h4 => ?_) (fun h4 => ?_) | refine branch_dec (fun h4 => ?_) (fun h4 => ?_) | refine branch_nbool (fun h4 => ?_) (fun h4 => ?_) | refine branch_split (fun h4 => ?_) (fun h4 => ?_)
          · simp only [go_sem]
            intro _
            refine call_mut 0 0 rfl rfl rfl (by simp only [go_sem]) ?_
            simp only [go_sem, List.set]
            refine callM.use ((ok31 (Cur.mk c.b i3 e3) m4 (g.size : Int))) ?_
            rintro _ _ ⟨b, i4, e4, rfl, b1, b2, b3, b4, rfl⟩
            simp only [go_sem]
            have b5 := b2 (by omega)
            refine ⟨b1, b5, ?_⟩
            simp only [go_sem, k1, k5, kn, hw8]
            refine again_intro ((true, l.set k.toNat (g.data.toList.getD b.toNat 0)), n - 1, i4, e4) ⟨by simp only [List.length_set]; omega, by simp only; omega, b4, by simp⟩ (by simp only; omega) ?_
            simp only [go_sem]
            exact modify_enc (f := byteA) (v := g.data.toList.getD b.toNat 0) rfl
          · simp only [go_sem]
            first | refine branch_ndec (fun h5 => ?_) (fun h5 => ?_) | refine branch_dec (fun h5 => ?_) (fun h5 => ?_) | refine branch_nbool (fun h5 => ?_) (fun h5 => ?_) | refine branch_split (fun h5 => ?_) (fun h5 => ?_)
            · simp only [go_sem]
              refine ⟨k1, by omega, fun _ => ⟨by omega, ?_⟩, fun hk0 => ?_⟩
              · rw [hw8]
                refine again_intro ((true, l.take k.toNat), n - 1, i3, e3) ⟨by simp only [List.length_take]; omega, by simp only; omega, m4, by simp⟩ (by simp only; omega) ?_
                simp only [go_sem]
                try trivial
              · rw [hw8]
                refine again_intro ((false, []), n - 1, i3, e3) ⟨by simp only [List.length_nil]; omega, by simp only; omega, m4, by simp⟩ (by simp only; omega) ?_
                simp only [go_sem]
                try trivial
            · simp only [go_sem]
              have hkl : k.toNat ≤ l.length := by omega
              have e0 : k.toNat - 0 = k.toNat := Nat.sub_zero _
              have f1 : k ≤ (l.length : Int) := by omega
              have f2 : (l.length : Int) ≤ (l.length : Int) := Int.le_refl _
              have f3 : ¬ k = (l.length : Int) := by omega
              have f4 : (0 : Int) ≤ k + 1 := by omega
              have f5 : k + 1 ≤ (l.length : Int) := by omega
              have e1 : (k + 1).toNat = k.toNat + 1 := by omega
              have e2 : ((l.length : Nat) : Int).toNat = l.length := by omega
              have e3' : k.toNat + 1 + (l.length - (k.toNat + 1)) = l.length := by omega
              have e4 : k.toNat + (l.length - k.toNat) = l.length := by omega
              have z0 : ¬ (0 : Int) < 0 := by omega
              have z1 : ¬ (False : Prop) := id
              first | refine branch_ndec (fun h6 => ?_) (fun h6 => ?_) | refine branch_dec (fun h6 => ?_) (fun h6 => ?_) | refine branch_nbool (fun h6 => ?_) (fun h6 => ?_) | refine branch_split (fun h6 => ?_) (fun h6 => ?_)
              · obtain ⟨iX, hiX⟩ : ∃ iX, iX = i3 := ⟨_, rfl⟩
                obtain ⟨eX, heX⟩ : ∃ eX, eX = e3 := ⟨_, rfl⟩
                rw [← hiX, ← heX]
                have mX : 0 ≤ iX := by omega
                by_cases hA : 0 < k <;> by_cases hB : k + 1 < (l.length : Int)
                · have hA' : ¬ (0 : Int) = k := by omega
                  have hB' : ¬ k + 1 = (l.length : Int) := by omega
                  simp only [go_sem, k1, f1, f2, f4, f5, hwk, hA, hA', hB, hB', e0, hkl, e1, e2, e3', Nat.le_refl, false_implies]
                  repeat' first | refine And.intro ?_ ?_ | intro _
                  all_goals first
                    | (exfalso; assumption)
                    | (simp only [List.length_take, List.length_drop, List.length_append, List.length_cons, List.length_nil]; omega)
                    | skip
                  all_goals
                    rw [hw8]
                    refine again_intro ((true, (l.take k.toNat ++ (l.drop (k.toNat + 1)).take (l.length - (k.toNat + 1)))), n - 1, iX, eX) ⟨by simp only [List.length_take, List.length_drop, List.length_append, List.length_cons, List.length_nil]; omega, by simp only; omega, mX, by simp⟩ (by simp only; omega) ?_
                    simp only [go_sem]
                    try trivial
                · have hA' : ¬ (0 : Int) = k := by omega
                  have hB' : k + 1 = (l.length : Int) := by omega
                  simp only [go_sem, k1, f1, f2, f4, f5, hwk, hA, hA', hB, eq_true hB', e0, hkl, e1, e2, e3', Nat.le_refl, false_implies]
                  repeat' first | refine And.intro ?_ ?_ | intro _
                  all_goals first
                    | (exfalso; assumption)
                    | (simp only [List.length_take, List.length_drop, List.length_append, List.length_cons, List.length_nil]; omega)
                    | skip
                  all_goals
                    rw [hw8]
                    refine again_intro ((true, (l.take k.toNat)), n - 1, iX, eX) ⟨by simp only [List.length_take, List.length_drop, List.length_append, List.length_cons, List.length_nil]; omega, by simp only; omega, mX, by simp⟩ (by simp only; omega) ?_
                    simp only [go_sem]
                    try trivial
                · have hA' : (0 : Int) = k := by omega
                  have hB' : ¬ k + 1 = (l.length : Int) := by omega
                  simp only [go_sem, k1, f1, f2, f4, f5, hwk, hA, eq_true hA', hB, hB', e0, hkl, e1, e2, e3', Nat.le_refl, false_implies]
                  repeat' first | refine And.intro ?_ ?_ | intro _
                  all_goals first
                    | (exfalso; assumption)
                    | (simp only [List.length_take, List.length_drop, List.length_append, List.length_cons, List.length_nil]; omega)
                    | skip
                  all_goals
                    rw [hw8]
                    refine again_intro ((true, ((l.drop (k.toNat + 1)).take (l.length - (k.toNat + 1)))), n - 1, iX, eX) ⟨by simp only [List.length_take, List.length_drop, List.length_append, List.length_cons, List.length_nil]; omega, by simp only; omega, mX, by simp⟩ (by simp only; omega) ?_
                    simp only [go_sem]
                    try trivial
                · have hA' : (0 : Int) = k := by omega
                  have hB' : k + 1 = (l.length : Int) := by omega
                  simp only [go_sem, k1, f1, f2, f4, f5, hwk, hA, eq_true hA', hB, eq_true hB', e0, hkl, e1, e2, e3', Nat.le_refl, false_implies]
                  repeat' first | refine And.intro ?_ ?_ | intro _
                  all_goals first
                    | (exfalso; assumption)
                    | (simp only [List.length_take, List.length_drop, List.length_append, List.length_cons, List.length_nil]; omega)
                    | skip
                  all_goals
                    rw [hw8]
                    refine again_intro ((true, []), n - 1, iX, eX) ⟨by simp only [List.length_take, List.length_drop, List.length_append, List.length_cons, List.length_nil]; omega, by simp only; omega, mX, by simp⟩ (by simp only; omega) ?_
                    simp only [go_sem]
                    try trivial
              · have h7 : m = 3 := by omega
                simp only [go_sem, h7]
                intro _
                by_cases hA : 0 < k
                · have hA' : ¬ (0 : Int) = k := by omega
                  simp only [go_sem, k1, f1, f2, f3, k5, hA, hA', e0, hkl, e2, e4, Nat.le_refl, false_implies]
                  repeat' first | refine And.intro ?_ ?_ | intro _
                  all_goals first
                    | (exfalso; assumption)
                    | (simp only [List.length_take, List.length_drop, List.length_append, List.length_cons, List.length_nil]; omega)
                    | skip
                  all_goals
                    refine call_mut 0 0 rfl rfl rfl (by simp only [go_sem]) ?_
                    simp only [go_sem, List.set]
                    refine callM.use ((ok31 (Cur.mk c.b i3 e3) m4 (g.size : Int))) ?_
                    rintro _ _ ⟨bX, iX, eX, rfl, b1, b2, b3, mX, rfl⟩
                    simp only [go_sem]
                    have b5 := b2 (by omega)
                    simp only [go_sem, b1, b5, k1, f1, f2, f3, k5, hA, hA', e0, hkl, e2, e4, Nat.le_refl, false_implies]
                    repeat' first | refine And.intro ?_ ?_ | intro _
                    all_goals first
                      | (exfalso; assumption)
                      | (simp only [List.length_take, List.length_drop, List.length_append, List.length_cons, List.length_nil]; omega)
                      | skip
                    all_goals
                      rw [hw8]
                      refine again_intro ((true, (l.take k.toNat ++ [g.data.toList.getD bX.toNat 0] ++ (l.drop k.toNat).take (l.length - k.toNat))), n - 1, iX, eX) ⟨by simp only [List.length_take, List.length_drop, List.length_append, List.length_cons, List.length_nil]; omega, by simp only; omega, mX, by simp⟩ (by simp only; omega) ?_
                      simp only [go_sem]
                      first | trivial | (rw [Nat.add_sub_cancel, List.take_length]; done) | (refine List.take_of_length_le ?_; simp; done) | (refine List.take_of_length_le ?_; simp; omega)
                · have hA' : (0 : Int) = k := by omega
                  simp only [go_sem, k1, f1, f2, f3, k5, hA, eq_true hA', e0, hkl, e2, e4, Nat.le_refl, false_implies]
                  repeat' first | refine And.intro ?_ ?_ | intro _
                  all_goals first
                    | (exfalso; assumption)
                    | (simp only [List.length_take, List.length_drop, List.length_append, List.length_cons, List.length_nil]; omega)
                    | skip
                  all_goals
                    refine call_mut 0 0 rfl rfl rfl (by simp only [go_sem]) ?_
                    simp only [go_sem, List.set]
                    refine callM.use ((ok31 (Cur.mk c.b i3 e3) m4 (g.size : Int))) ?_
                    rintro _ _ ⟨bX, iX, eX, rfl, b1, b2, b3, mX, rfl⟩
                    simp only [go_sem]
                    have b5 := b2 (by omega)
                    simp only [go_sem, b1, b5, k1, f1, f2, f3, k5, hA, eq_true hA', e0, hkl, e2, e4, Nat.le_refl, false_implies]
                    repeat' first | refine And.intro ?_ ?_ | intro _
                    all_goals first
                      | (exfalso; assumption)
                      | (simp only [List.length_take, List.length_drop, List.length_append, List.length_cons, List.length_nil]; omega)
                      | skip
                    all_goals
                      rw [hw8]
                      refine again_intro ((true, ([g.data.toList.getD bX.toNat 0] ++ (l.drop k.toNat).take (l.length - k.toNat))), n - 1, iX, eX) ⟨by simp only [List.length_take, List.length_drop, List.length_append, List.length_cons, List.length_nil]; omega, by simp only; omega, mX, by simp⟩ (by simp only; omega) ?_
                      simp only [go_sem]
                      first | trivial | (rw [Nat.add_sub_cancel, List.take_length]; done) | (refine List.take_of_length_le ?_; simp; done) | (refine List.take_of_length_le ?_; simp; omega)
end Go.VS

