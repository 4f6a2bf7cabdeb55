/- VS: functions by the machine. -/
import Derived.Test.YtdbfhpndlocilaaDoorVl
import Derived.Test.YtdbfhpndlocilaaDoorVn
import Derived.Test.YtdbfhpndlocilaaDoorVi
set_option linter.unusedSimpArgs false
set_option linter.unusedVariables false
open Go.Proofs Go.RowKit
set_option maxRecDepth 20000
namespace Go.VS
theorem f3_at : gz.P.funcs[3]? = some Tryd.f3 := by
  have h : Tryd.prog.funcs[3]? = some Tryd.f3 := by kernel_rfl
  exact h
set_option maxHeartbeats 4000000 in
theorem ok3 (l : List UInt8) : VCalls gz 3 [.lst false 1 (l.map byteA)] none (fun y _ => y = .lit (.bool true)) := by
  refine VCalls.go (nt := 135) (keep := [0, 2, 3, 4, 5, 6, 7, 8, 9, 10, 11, 12, 13, 14, 15, 16, 17, 18, 19, 20, 22, 61, 63, 75, 83]) (muts := []) (mvs := [14,18,19,20]) [(19, .ex false (.take 1 (.take 2 (.all (.cons 0 (.all (.cons 3 (.all (.cons 4 (.take 5 (.take 6 (.take 7 (.all (.cons 8 (.all (.cons 9 (.all (.cons 10 .done .nil)) .nil)) .nil))))) (.cons 8 (.all (.cons 4 (.take 5 (.take 6 (.take 7 (.all (.cons 9 (.all (.cons 10 .done .nil)) .nil))))) .nil)) .nil))) (.cons 8 (.all (.cons 3 (.all (.cons 4 (.take 5 (.take 6 (.take 7 (.all (.cons 9 (.all (.cons 10 .done .nil)) .nil))))) .nil)) .nil)) .nil))) (.cons 3 (.all (.cons 0 (.all (.cons 4 (.take 5 (.take 6 (.take 7 (.all (.cons 8 (.all (.cons 9 (.all (.cons 10 .done .nil)) .nil)) .nil))))) (.cons 8 (.all (.cons 4 (.take 5 (.take 6 (.take 7 (.all (.cons 9 (.all (.cons 10 .done .nil)) .nil))))) .nil)) .nil))) (.cons 8 (.all (.cons 0 (.all (.cons 4 (.take 5 (.take 6 (.take 7 (.all (.cons 9 (.all (.cons 10 .done .nil)) .nil))))) .nil)) .nil)) .nil))) (.cons 8 (.all (.cons 0 (.all (.cons 3 (.all (.cons 4 (.take 5 (.take 6 (.take 7 (.all (.cons 9 (.all (.cons 10 .done .nil)) .nil))))) .nil)) .nil)) (.cons 3 (.all (.cons 0 (.all (.cons 4 (.take 5 (.take 6 (.take 7 (.all (.cons 9 (.all (.cons 10 .done .nil)) .nil))))) .nil)) .nil)) .nil))) .nil))))))), (20, .ex false (.take 1 (.take 2 (.all (.cons 0 (.all (.cons 3 (.all (.cons 4 (.take 5 (.take 6 (.take 7 (.all (.cons 8 (.all (.cons 9 (.all (.cons 10 .done .nil)) .nil)) .nil))))) (.cons 8 (.all (.cons 4 (.take 5 (.take 6 (.take 7 (.all (.cons 9 (.all (.cons 10 .done .nil)) .nil))))) .nil)) .nil))) (.cons 8 (.all (.cons 3 (.all (.cons 4 (.take 5 (.take 6 (.take 7 (.all (.cons 9 (.all (.cons 10 .done .nil)) .nil))))) .nil)) .nil)) .nil))) (.cons 3 (.all (.cons 0 (.all (.cons 4 (.take 5 (.take 6 (.take 7 (.all (.cons 8 (.all (.cons 9 (.all (.cons 10 .done .nil)) .nil)) .nil))))) (.cons 8 (.all (.cons 4 (.take 5 (.take 6 (.take 7 (.all (.cons 9 (.all (.cons 10 .done .nil)) .nil))))) .nil)) .nil))) (.cons 8 (.all (.cons 0 (.all (.cons 4 (.take 5 (.take 6 (.take 7 (.all (.cons 9 (.all (.cons 10 .done .nil)) .nil))))) .nil)) .nil)) .nil))) (.cons 8 (.all (.cons 0 (.all (.cons 3 (.all (.cons 4 (.take 5 (.take 6 (.take 7 (.all (.cons 9 (.all (.cons 10 .done .nil)) .nil))))) .nil)) .nil)) (.cons 3 (.all (.cons 0 (.all (.cons 4 (.take 5 (.take 6 (.take 7 (.all (.cons 9 (.all (.cons 10 .done .nil)) .nil))))) .nil)) .nil)) .nil))) .nil)))))))] f3_at rfl (by kernel_rfl) rfl (by kernel_rfl) rfl (fun i h => by cases h) rfl ?_
  intro hok
  simp only [go_sem] at hok
  simp only [Tryd.f3, Func.code, Option.getD_some]
  simp only [go_sem]
  refine call_lend ?_
  simp only [go_sem]
  refine callN.eq (ok4 l) (by simp only [go_sem]) ?_
  simp only [go_sem]
  first | refine branch_ndec (fun h0 => ?_) (fun h0 => ?_) | refine branch_dec (fun h0 => ?_) (fun h0 => ?_) | refine branch_nbool (fun h0 => ?_) (fun h0 => ?_) | refine branch_split (fun h0 => ?_) (fun h0 => ?_)
  · simp only [go_sem]
    try trivial
  simp only [go_sem]
  refine call_lend ?_
  simp only [go_sem]
  refine callN.use (ok5 l) ?_
  rintro _ _ ⟨m, rfl⟩
  refine ⟨by simp only [go_sem], ?_⟩
  simp only [go_sem]
  refine call_lend ?_
  simp only [go_sem]
  refine callN.eq (ok6 m) (by simp only [go_sem]) ?_
  simp only [go_sem]
  refine call_lend ?_
  simp only [go_sem]
  refine callN.use (ok7 l) ?_
  rintro _ _ ⟨t, rfl, ht⟩
  refine ⟨by simp only [go_sem], ?_⟩
  simp only [go_sem]
  have hr1 := ok8 t (by omega)
  have hr2 := ok9 t (by omega)
  -- what is read from the drawn text
  have first : True := trivial
  cases g : rdM t with
  | none =>
    rw [g, rdA_none] at hr1 hr2
    refine call_lend ?_
    simp only [go_sem]
    refine callN.eq (hr1) (by simp only [go_sem]) ?_
    simp only [go_sem]
    refine call_lend ?_
    simp only [go_sem]
    refine callN.eq (hr2) (by simp only [go_sem]) ?_
    simp only [go_sem]
    simp only [go_sem, bne_self_eq_false]
    refine call_lend ?_
    simp only [go_sem]
    refine callN.eq (ok10 m) (by simp only [go_sem]) ?_
    simp only [go_sem]
    try simp only [go_sem, bne_self_eq_false]
    cases hm : m.ok
    · have e : m.sh = ⟨#[]⟩ := if_neg (by rw [hm]; decide)
      simp only [go_sem, eq_true e]
      refine call_share ?_
      simp only [go_sem]
      refine callS.use (ok11 l) ?_
      rintro _ _ ⟨b, ms, rfl, ⟨b1, b2⟩, ms1, ms2⟩
      have hms : ∀ s ∈ ms, s.size ≤ 4000000 := fun s hs => by have := ms2 s hs; omega
      simp only [go_sem]
      refine call_lend ?_
      simp only [go_sem]
      refine callN.eq (ok12 b) (by simp only [go_sem]) ?_
      simp only [go_sem]
      cases hb : b.ok
      · simp only [go_sem, eq_true e]
        refine call_lend ?_
        simp only [go_sem]
        refine callN.eq (ok13 m) (by simp only [go_sem]) ?_
        simp only [go_sem]
        simp only [go_sem, hm]
        try trivial
      · simp only [go_sem]
        intro hlen
        have hwk : IntKind.i64.wrap ((ms.length : Int) + 1) = (ms.length : Int) + 1 := wrap64 (by omega) (by omega)
        simp only [go_sem, hwk]
        refine call_lend ?_
        simp only [go_sem]
        refine callN.use (ok14 l (by omega) ((ms.length : Int) + 1) (by omega)) ?_
        rintro _ _ ⟨k0, rfl, k1, k2⟩
        refine ⟨by simp only [go_sem], ?_⟩
        simp only [go_sem]
        obtain ⟨k, rfl⟩ := Int.eq_ofNat_of_zero_le k1
        have hk : k ≤ ms.length := by omega
        have a1 := Bnk.ans_ok hb (ms.take k)
        have l1 := Bnk.ok_len hb
        have l2 := Bnk.ok_len a1
        have f1 : ∀ s ∈ ms.take k, s.size ≤ 4000000 := fun s hs => hms s (List.mem_of_mem_take hs)
        have f2 : ∀ s ∈ ms.drop k, s.size ≤ 4000000 := fun s hs => hms s (List.mem_of_mem_drop hs)
        have f3 : (ms.take k).length = k := by rw [List.length_take]; omega
        have f4 : (ms.drop k).length = ms.length - k := List.length_drop
        have ha : ((b.ans (ms.take k)).1.ans (ms.drop k)).1 = (b.ans ms).1 ∧ (b.ans (ms.take k)).2 ++ ((b.ans (ms.take k)).1.ans (ms.drop k)).2 = (b.ans ms).2 := by
          have h9 := Bnk.ans_app hb (ms.take k) (ms.drop k)
          rw [List.take_append_drop] at h9
          rw [h9]
          exact ⟨rfl, rfl⟩
        refine call_lend ?_
        simp only [go_sem]
        refine callN.eq (ok15 b ms (by omega) (by omega) (by omega) hms) (by simp only [go_sem]) ?_
        simp only [go_sem]
        have k3 : (k : Int) ≤ (ms.length : Int) := by omega
        have hsum : k + (ms.length - k) ≤ ms.length := by omega
        have htk : (ms.drop k).take (ms.length - k) = ms.drop k := List.take_of_length_le (by omega)
        have M1 := ok15 b (ms.take k) (by omega) (by omega) (by omega) f1
        have M2 := ok15 (b.ans (ms.take k)).1 (ms.drop k) (by omega) (by omega) (by omega) f2
        obtain ⟨A, hA⟩ : ∃ A, A = b.ans (ms.take k) := ⟨_, rfl⟩
        rw [← hA] at M1 M2 ha a1 l2
        obtain ⟨B, hB⟩ : ∃ B, B = A.1.ans (ms.drop k) := ⟨_, rfl⟩
        rw [← hB] at M2 ha
        have N1 : k = 0 → VCalls gz 15 [b.enc false, .lst false 1 []] none (fun y _ => y = .tup [A.1.enc true, .lst true 1 (A.2.map intA)]) := fun h => by
          rw [h, List.take_zero] at M1
          exact M1
        have N2 : k = ms.length → VCalls gz 15 [A.1.enc false, .lst false 1 []] none (fun y _ => y = .tup [B.1.enc true, .lst true 1 (B.2.map intA)]) := fun h => by
          rw [h, List.drop_length] at M2
          exact M2
        refine draw_mk (L := ?La1) ?h1a1 ?h2a1
        case h1a1 =>
          simp only [go_sem, k3, hk, Int.natCast_nonneg, Nat.sub_zero, List.drop_zero, Int.le_refl, Nat.le_refl]
          repeat' first | refine And.intro ?_ ?_ | intro _
          all_goals first | contradiction | omega | skip
          all_goals
            refine call_lend ?_
            simp only [go_sem, k3, hk, Int.natCast_nonneg, Nat.sub_zero, List.drop_zero, Int.le_refl, Nat.le_refl]
            first | refine callN.eq M1 (by simp only [go_sem]) ?_ | refine callN.eq (N1 (by omega)) (by simp only [go_sem]) ?_
            simp only [go_sem, k3, hk, Int.natCast_nonneg, Nat.sub_zero, List.drop_zero, Int.le_refl, Nat.le_refl, false_implies, true_implies, and_true, true_and, and_self]
            repeat' first | refine And.intro ?_ ?_ | intro _
            all_goals first | omega | with_reducible exact rfl | exact mkE_perm (by kernel_rfl) | trace_state
        case h2a1 =>
          simp only [go_sem]
          refine draw_mk (L := ?Lb1) ?h1b1 ?h2b1
          case h1b1 =>
            simp only [go_sem, k3, hk, Int.natCast_nonneg, Nat.sub_zero, List.drop_zero, Int.le_refl, Nat.le_refl, f4, hsum, htk]
            repeat' first | refine And.intro ?_ ?_ | intro _
            all_goals first | contradiction | omega | skip
            all_goals
              refine call_lend ?_
              simp only [go_sem, k3, hk, Int.natCast_nonneg, Nat.sub_zero, List.drop_zero, Int.le_refl, Nat.le_refl, f4, hsum, htk]
              first | refine callN.eq M2 (by simp only [go_sem]) ?_ | refine callN.eq (N2 (by omega)) (by simp only [go_sem]) ?_
              simp only [go_sem, k3, hk, Int.natCast_nonneg, Nat.sub_zero, List.drop_zero, Int.le_refl, Nat.le_refl, f4, hsum, htk, false_implies, true_implies, and_true, true_and, and_self]
              repeat' first | refine And.intro ?_ ?_ | intro _
              all_goals first | omega | with_reducible exact rfl | exact mkE_perm (by kernel_rfl) | trace_state
          case h2b1 =>
            simp only [go_sem]
            have q1 := (Bnk.ans_len b ms).2.2
            have q2 := (Bnk.ans_len b (ms.take k)).2.2
            have q3 := (Bnk.ans_len A.1 (ms.drop k)).2.2
            rw [← hA] at q2
            rw [← hB] at q3
            refine call_lend ?_
            simp only [go_sem]
            refine callN.eq (ok16 B.1 (b.ans ms).1) (by simp only [go_sem]) ?_
            simp only [go_sem]
            try simp only [go_sem, eq_true ha.1]
            refine ⟨by omega, by omega, ?_⟩
            have hL := ok17 (A.2 ++ B.2) (b.ans ms).2
            rw [List.map_append] at hL
            have hs : toShds (A.2.map intA ++ B.2.map intA) = A.2.map intA ++ B.2.map intA := by
              rw [← List.map_append]
              exact toShds_flat fun _ => by simp only [go_sem]
            refine call_lend ?_
            simp only [go_sem, hs]
            refine callN.eq (hL) (by simp only [go_sem, hs]) ?_
            simp only [go_sem, hs]
            try simp only [go_sem, eq_true ha.2]
            refine call_lend ?_
            simp only [go_sem]
            refine callN.eq (ok13 m) (by simp only [go_sem]) ?_
            simp only [go_sem]
            try simp only [go_sem, eq_true e, hm]
            try rfl
    · have e : ¬ m.sh = ⟨#[]⟩ := Mv.sh_ne hm
      have hr3 := ok8 m.sh (by have := Mv.sh_size m; omega)
      rw [rdM_yes hm rfl, rdA_some] at hr3
      simp only [go_sem, e]
      refine call_lend ?_
      simp only [go_sem]
      refine callN.eq (hr3) (by simp only [go_sem]) ?_
      simp only [go_sem]
      try simp only [go_sem]
      refine call_share ?_
      simp only [go_sem]
      refine callS.use (ok11 l) ?_
      rintro _ _ ⟨b, ms, rfl, ⟨b1, b2⟩, ms1, ms2⟩
      have hms : ∀ s ∈ ms, s.size ≤ 4000000 := fun s hs => by have := ms2 s hs; omega
      simp only [go_sem]
      refine call_lend ?_
      simp only [go_sem]
      refine callN.eq (ok12 b) (by simp only [go_sem]) ?_
      simp only [go_sem]
      cases hb : b.ok
      · simp only [go_sem, e]
        refine call_lend ?_
        simp only [go_sem]
        refine callN.eq (ok13 m) (by simp only [go_sem]) ?_
        simp only [go_sem]
        simp only [go_sem, hm]
        try trivial
      · simp only [go_sem]
        intro hlen
        have hwk : IntKind.i64.wrap ((ms.length : Int) + 1) = (ms.length : Int) + 1 := wrap64 (by omega) (by omega)
        simp only [go_sem, hwk]
        refine call_lend ?_
        simp only [go_sem]
        refine callN.use (ok14 l (by omega) ((ms.length : Int) + 1) (by omega)) ?_
        rintro _ _ ⟨k0, rfl, k1, k2⟩
        refine ⟨by simp only [go_sem], ?_⟩
        simp only [go_sem]
        obtain ⟨k, rfl⟩ := Int.eq_ofNat_of_zero_le k1
        have hk : k ≤ ms.length := by omega
        have a1 := Bnk.ans_ok hb (ms.take k)
        have l1 := Bnk.ok_len hb
        have l2 := Bnk.ok_len a1
        have f1 : ∀ s ∈ ms.take k, s.size ≤ 4000000 := fun s hs => hms s (List.mem_of_mem_take hs)
        have f2 : ∀ s ∈ ms.drop k, s.size ≤ 4000000 := fun s hs => hms s (List.mem_of_mem_drop hs)
        have f3 : (ms.take k).length = k := by rw [List.length_take]; omega
        have f4 : (ms.drop k).length = ms.length - k := List.length_drop
        have ha : ((b.ans (ms.take k)).1.ans (ms.drop k)).1 = (b.ans ms).1 ∧ (b.ans (ms.take k)).2 ++ ((b.ans (ms.take k)).1.ans (ms.drop k)).2 = (b.ans ms).2 := by
          have h9 := Bnk.ans_app hb (ms.take k) (ms.drop k)
          rw [List.take_append_drop] at h9
          rw [h9]
          exact ⟨rfl, rfl⟩
        refine call_lend ?_
        simp only [go_sem]
        refine callN.eq (ok15 b ms (by omega) (by omega) (by omega) hms) (by simp only [go_sem]) ?_
        simp only [go_sem]
        have k3 : (k : Int) ≤ (ms.length : Int) := by omega
        have hsum : k + (ms.length - k) ≤ ms.length := by omega
        have htk : (ms.drop k).take (ms.length - k) = ms.drop k := List.take_of_length_le (by omega)
        have M1 := ok15 b (ms.take k) (by omega) (by omega) (by omega) f1
        have M2 := ok15 (b.ans (ms.take k)).1 (ms.drop k) (by omega) (by omega) (by omega) f2
        obtain ⟨A, hA⟩ : ∃ A, A = b.ans (ms.take k) := ⟨_, rfl⟩
        rw [← hA] at M1 M2 ha a1 l2
        obtain ⟨B, hB⟩ : ∃ B, B = A.1.ans (ms.drop k) := ⟨_, rfl⟩
        rw [← hB] at M2 ha
        have N1 : k = 0 → VCalls gz 15 [b.enc false, .lst false 1 []] none (fun y _ => y = .tup [A.1.enc true, .lst true 1 (A.2.map intA)]) := fun h => by
          rw [h, List.take_zero] at M1
          exact M1
        have N2 : k = ms.length → VCalls gz 15 [A.1.enc false, .lst false 1 []] none (fun y _ => y = .tup [B.1.enc true, .lst true 1 (B.2.map intA)]) := fun h => by
          rw [h, List.drop_length] at M2
          exact M2
        refine draw_mk (L := ?La2) ?h1a2 ?h2a2
        case h1a2 =>
          simp only [go_sem, k3, hk, Int.natCast_nonneg, Nat.sub_zero, List.drop_zero, Int.le_refl, Nat.le_refl]
          repeat' first | refine And.intro ?_ ?_ | intro _
          all_goals first | contradiction | omega | skip
          all_goals
            refine call_lend ?_
            simp only [go_sem, k3, hk, Int.natCast_nonneg, Nat.sub_zero, List.drop_zero, Int.le_refl, Nat.le_refl]
            first | refine callN.eq M1 (by simp only [go_sem]) ?_ | refine callN.eq (N1 (by omega)) (by simp only [go_sem]) ?_
            simp only [go_sem, k3, hk, Int.natCast_nonneg, Nat.sub_zero, List.drop_zero, Int.le_refl, Nat.le_refl, false_implies, true_implies, and_true, true_and, and_self]
            repeat' first | refine And.intro ?_ ?_ | intro _
            all_goals first | omega | with_reducible exact rfl | exact mkE_perm (by kernel_rfl) | trace_state
        case h2a2 =>
          simp only [go_sem]
          refine draw_mk (L := ?Lb2) ?h1b2 ?h2b2
          case h1b2 =>
            simp only [go_sem, k3, hk, Int.natCast_nonneg, Nat.sub_zero, List.drop_zero, Int.le_refl, Nat.le_refl, f4, hsum, htk]
            repeat' first | refine And.intro ?_ ?_ | intro _
            all_goals first | contradiction | omega | skip
            all_goals
              refine call_lend ?_
              simp only [go_sem, k3, hk, Int.natCast_nonneg, Nat.sub_zero, List.drop_zero, Int.le_refl, Nat.le_refl, f4, hsum, htk]
              first | refine callN.eq M2 (by simp only [go_sem]) ?_ | refine callN.eq (N2 (by omega)) (by simp only [go_sem]) ?_
              simp only [go_sem, k3, hk, Int.natCast_nonneg, Nat.sub_zero, List.drop_zero, Int.le_refl, Nat.le_refl, f4, hsum, htk, false_implies, true_implies, and_true, true_and, and_self]
              repeat' first | refine And.intro ?_ ?_ | intro _
              all_goals first | omega | with_reducible exact rfl | exact mkE_perm (by kernel_rfl) | trace_state
          case h2b2 =>
            simp only [go_sem]
            have q1 := (Bnk.ans_len b ms).2.2
            have q2 := (Bnk.ans_len b (ms.take k)).2.2
            have q3 := (Bnk.ans_len A.1 (ms.drop k)).2.2
            rw [← hA] at q2
            rw [← hB] at q3
            refine call_lend ?_
            simp only [go_sem]
            refine callN.eq (ok16 B.1 (b.ans ms).1) (by simp only [go_sem]) ?_
            simp only [go_sem]
            try simp only [go_sem, eq_true ha.1]
            refine ⟨by omega, by omega, ?_⟩
            have hL := ok17 (A.2 ++ B.2) (b.ans ms).2
            rw [List.map_append] at hL
            have hs : toShds (A.2.map intA ++ B.2.map intA) = A.2.map intA ++ B.2.map intA := by
              rw [← List.map_append]
              exact toShds_flat fun _ => by simp only [go_sem]
            refine call_lend ?_
            simp only [go_sem, hs]
            refine callN.eq (hL) (by simp only [go_sem, hs]) ?_
            simp only [go_sem, hs]
            try simp only [go_sem, eq_true ha.2]
            refine call_lend ?_
            simp only [go_sem]
            refine callN.eq (ok13 m) (by simp only [go_sem]) ?_
            simp only [go_sem]
            try simp only [go_sem, e, hm]
            try rfl
  | some x =>
    rw [g, rdA_some] at hr1 hr2
    have hx := rdM_ok g
    refine call_lend ?_
    simp only [go_sem]
    refine callN.eq (hr1) (by simp only [go_sem]) ?_
    simp only [go_sem]
    refine call_lend ?_
    simp only [go_sem]
    refine callN.eq (hr2) (by simp only [go_sem]) ?_
    simp only [go_sem]
    simp only [go_sem, bne_self_eq_false]
    refine call_lend ?_
    simp only [go_sem]
    refine callN.eq (ok10 m) (by simp only [go_sem]) ?_
    simp only [go_sem]
    try simp only [go_sem, bne_self_eq_false]
    refine call_lend ?_
    simp only [go_sem]
    refine callN.eq (ok6 x) (by simp only [go_sem]) ?_
    simp only [go_sem]
    simp only [go_sem, hx.2]
    cases hm : m.ok
    · have e : m.sh = ⟨#[]⟩ := if_neg (by rw [hm]; decide)
      simp only [go_sem, eq_true e]
      refine call_share ?_
      simp only [go_sem]
      refine callS.use (ok11 l) ?_
      rintro _ _ ⟨b, ms, rfl, ⟨b1, b2⟩, ms1, ms2⟩
      have hms : ∀ s ∈ ms, s.size ≤ 4000000 := fun s hs => by have := ms2 s hs; omega
      simp only [go_sem]
      refine call_lend ?_
      simp only [go_sem]
      refine callN.eq (ok12 b) (by simp only [go_sem]) ?_
      simp only [go_sem]
      cases hb : b.ok
      · simp only [go_sem, eq_true e]
        refine call_lend ?_
        simp only [go_sem]
        refine callN.eq (ok13 m) (by simp only [go_sem]) ?_
        simp only [go_sem]
        simp only [go_sem, hm]
        try trivial
      · simp only [go_sem]
        intro hlen
        have hwk : IntKind.i64.wrap ((ms.length : Int) + 1) = (ms.length : Int) + 1 := wrap64 (by omega) (by omega)
        simp only [go_sem, hwk]
        refine call_lend ?_
        simp only [go_sem]
        refine callN.use (ok14 l (by omega) ((ms.length : Int) + 1) (by omega)) ?_
        rintro _ _ ⟨k0, rfl, k1, k2⟩
        refine ⟨by simp only [go_sem], ?_⟩
        simp only [go_sem]
        obtain ⟨k, rfl⟩ := Int.eq_ofNat_of_zero_le k1
        have hk : k ≤ ms.length := by omega
        have a1 := Bnk.ans_ok hb (ms.take k)
        have l1 := Bnk.ok_len hb
        have l2 := Bnk.ok_len a1
        have f1 : ∀ s ∈ ms.take k, s.size ≤ 4000000 := fun s hs => hms s (List.mem_of_mem_take hs)
        have f2 : ∀ s ∈ ms.drop k, s.size ≤ 4000000 := fun s hs => hms s (List.mem_of_mem_drop hs)
        have f3 : (ms.take k).length = k := by rw [List.length_take]; omega
        have f4 : (ms.drop k).length = ms.length - k := List.length_drop
        have ha : ((b.ans (ms.take k)).1.ans (ms.drop k)).1 = (b.ans ms).1 ∧ (b.ans (ms.take k)).2 ++ ((b.ans (ms.take k)).1.ans (ms.drop k)).2 = (b.ans ms).2 := by
          have h9 := Bnk.ans_app hb (ms.take k) (ms.drop k)
          rw [List.take_append_drop] at h9
          rw [h9]
          exact ⟨rfl, rfl⟩
        refine call_lend ?_
        simp only [go_sem]
        refine callN.eq (ok15 b ms (by omega) (by omega) (by omega) hms) (by simp only [go_sem]) ?_
        simp only [go_sem]
        have k3 : (k : Int) ≤ (ms.length : Int) := by omega
        have hsum : k + (ms.length - k) ≤ ms.length := by omega
        have htk : (ms.drop k).take (ms.length - k) = ms.drop k := List.take_of_length_le (by omega)
        have M1 := ok15 b (ms.take k) (by omega) (by omega) (by omega) f1
        have M2 := ok15 (b.ans (ms.take k)).1 (ms.drop k) (by omega) (by omega) (by omega) f2
        obtain ⟨A, hA⟩ : ∃ A, A = b.ans (ms.take k) := ⟨_, rfl⟩
        rw [← hA] at M1 M2 ha a1 l2
        obtain ⟨B, hB⟩ : ∃ B, B = A.1.ans (ms.drop k) := ⟨_, rfl⟩
        rw [← hB] at M2 ha
        have N1 : k = 0 → VCalls gz 15 [b.enc false, .lst false 1 []] none (fun y _ => y = .tup [A.1.enc true, .lst true 1 (A.2.map intA)]) := fun h => by
          rw [h, List.take_zero] at M1
          exact M1
        have N2 : k = ms.length → VCalls gz 15 [A.1.enc false, .lst false 1 []] none (fun y _ => y = .tup [B.1.enc true, .lst true 1 (B.2.map intA)]) := fun h => by
          rw [h, List.drop_length] at M2
          exact M2
        refine draw_mk (L := ?La3) ?h1a3 ?h2a3
        case h1a3 =>
          simp only [go_sem, k3, hk, Int.natCast_nonneg, Nat.sub_zero, List.drop_zero, Int.le_refl, Nat.le_refl]
          repeat' first | refine And.intro ?_ ?_ | intro _
          all_goals first | contradiction | omega | skip
          all_goals
            refine call_lend ?_
            simp only [go_sem, k3, hk, Int.natCast_nonneg, Nat.sub_zero, List.drop_zero, Int.le_refl, Nat.le_refl]
            first | refine callN.eq M1 (by simp only [go_sem]) ?_ | refine callN.eq (N1 (by omega)) (by simp only [go_sem]) ?_
            simp only [go_sem, k3, hk, Int.natCast_nonneg, Nat.sub_zero, List.drop_zero, Int.le_refl, Nat.le_refl, false_implies, true_implies, and_true, true_and, and_self]
            repeat' first | refine And.intro ?_ ?_ | intro _
            all_goals first | omega | with_reducible exact rfl | exact mkE_perm (by kernel_rfl) | trace_state
        case h2a3 =>
          simp only [go_sem]
          refine draw_mk (L := ?Lb3) ?h1b3 ?h2b3
          case h1b3 =>
            simp only [go_sem, k3, hk, Int.natCast_nonneg, Nat.sub_zero, List.drop_zero, Int.le_refl, Nat.le_refl, f4, hsum, htk]
            repeat' first | refine And.intro ?_ ?_ | intro _
            all_goals first | contradiction | omega | skip
            all_goals
              refine call_lend ?_
              simp only [go_sem, k3, hk, Int.natCast_nonneg, Nat.sub_zero, List.drop_zero, Int.le_refl, Nat.le_refl, f4, hsum, htk]
              first | refine callN.eq M2 (by simp only [go_sem]) ?_ | refine callN.eq (N2 (by omega)) (by simp only [go_sem]) ?_
              simp only [go_sem, k3, hk, Int.natCast_nonneg, Nat.sub_zero, List.drop_zero, Int.le_refl, Nat.le_refl, f4, hsum, htk, false_implies, true_implies, and_true, true_and, and_self]
              repeat' first | refine And.intro ?_ ?_ | intro _
              all_goals first | omega | with_reducible exact rfl | exact mkE_perm (by kernel_rfl) | trace_state
          case h2b3 =>
            simp only [go_sem]
            have q1 := (Bnk.ans_len b ms).2.2
            have q2 := (Bnk.ans_len b (ms.take k)).2.2
            have q3 := (Bnk.ans_len A.1 (ms.drop k)).2.2
            rw [← hA] at q2
            rw [← hB] at q3
            refine call_lend ?_
            simp only [go_sem]
            refine callN.eq (ok16 B.1 (b.ans ms).1) (by simp only [go_sem]) ?_
            simp only [go_sem]
            try simp only [go_sem, eq_true ha.1]
            refine ⟨by omega, by omega, ?_⟩
            have hL := ok17 (A.2 ++ B.2) (b.ans ms).2
            rw [List.map_append] at hL
            have hs : toShds (A.2.map intA ++ B.2.map intA) = A.2.map intA ++ B.2.map intA := by
              rw [← List.map_append]
              exact toShds_flat fun _ => by simp only [go_sem]
            refine call_lend ?_
            simp only [go_sem, hs]
            refine callN.eq (hL) (by simp only [go_sem, hs]) ?_
            simp only [go_sem, hs]
            try simp only [go_sem, eq_true ha.2]
            refine call_lend ?_
            simp only [go_sem]
            refine callN.eq (ok13 m) (by simp only [go_sem]) ?_
            simp only [go_sem]
            try simp only [go_sem, eq_true e, hm]
            try rfl
    · have e : ¬ m.sh = ⟨#[]⟩ := Mv.sh_ne hm
      have hr3 := ok8 m.sh (by have := Mv.sh_size m; omega)
      rw [rdM_yes hm rfl, rdA_some] at hr3
      simp only [go_sem, e]
      refine call_lend ?_
      simp only [go_sem]
      refine callN.eq (hr3) (by simp only [go_sem]) ?_
      simp only [go_sem]
      try simp only [go_sem]
      refine call_share ?_
      simp only [go_sem]
      refine callS.use (ok11 l) ?_
      rintro _ _ ⟨b, ms, rfl, ⟨b1, b2⟩, ms1, ms2⟩
      have hms : ∀ s ∈ ms, s.size ≤ 4000000 := fun s hs => by have := ms2 s hs; omega
      simp only [go_sem]
      refine call_lend ?_
      simp only [go_sem]
      refine callN.eq (ok12 b) (by simp only [go_sem]) ?_
      simp only [go_sem]
      cases hb : b.ok
      · simp only [go_sem, e]
        refine call_lend ?_
        simp only [go_sem]
        refine callN.eq (ok13 m) (by simp only [go_sem]) ?_
        simp only [go_sem]
        simp only [go_sem, hm]
        try trivial
      · simp only [go_sem]
        intro hlen
        have hwk : IntKind.i64.wrap ((ms.length : Int) + 1) = (ms.length : Int) + 1 := wrap64 (by omega) (by omega)
        simp only [go_sem, hwk]
        refine call_lend ?_
        simp only [go_sem]
        refine callN.use (ok14 l (by omega) ((ms.length : Int) + 1) (by omega)) ?_
        rintro _ _ ⟨k0, rfl, k1, k2⟩
        refine ⟨by simp only [go_sem], ?_⟩
        simp only [go_sem]
        obtain ⟨k, rfl⟩ := Int.eq_ofNat_of_zero_le k1
        have hk : k ≤ ms.length := by omega
        have a1 := Bnk.ans_ok hb (ms.take k)
        have l1 := Bnk.ok_len hb
        have l2 := Bnk.ok_len a1
        have f1 : ∀ s ∈ ms.take k, s.size ≤ 4000000 := fun s hs => hms s (List.mem_of_mem_take hs)
        have f2 : ∀ s ∈ ms.drop k, s.size ≤ 4000000 := fun s hs => hms s (List.mem_of_mem_drop hs)
        have f3 : (ms.take k).length = k := by rw [List.length_take]; omega
        have f4 : (ms.drop k).length = ms.length - k := List.length_drop
        have ha : ((b.ans (ms.take k)).1.ans (ms.drop k)).1 = (b.ans ms).1 ∧ (b.ans (ms.take k)).2 ++ ((b.ans (ms.take k)).1.ans (ms.drop k)).2 = (b.ans ms).2 := by
          have h9 := Bnk.ans_app hb (ms.take k) (ms.drop k)
          rw [List.take_append_drop] at h9
          rw [h9]
          exact ⟨rfl, rfl⟩
        refine call_lend ?_
        simp only [go_sem]
        refine callN.eq (ok15 b ms (by omega) (by omega) (by omega) hms) (by simp only [go_sem]) ?_
        simp only [go_sem]
        have k3 : (k : Int) ≤ (ms.length : Int) := by omega
        have hsum : k + (ms.length - k) ≤ ms.length := by omega
        have htk : (ms.drop k).take (ms.length - k) = ms.drop k := List.take_of_length_le (by omega)
        have M1 := ok15 b (ms.take k) (by omega) (by omega) (by omega) f1
        have M2 := ok15 (b.ans (ms.take k)).1 (ms.drop k) (by omega) (by omega) (by omega) f2
        obtain ⟨A, hA⟩ : ∃ A, A = b.ans (ms.take k) := ⟨_, rfl⟩
        rw [← hA] at M1 M2 ha a1 l2
        obtain ⟨B, hB⟩ : ∃ B, B = A.1.ans (ms.drop k) := ⟨_, rfl⟩
        rw [← hB] at M2 ha
        have N1 : k = 0 → VCalls gz 15 [b.enc false, .lst false 1 []] none (fun y _ => y = .tup [A.1.enc true, .lst true 1 (A.2.map intA)]) := fun h => by
          rw [h, List.take_zero] at M1
          exact M1
        have N2 : k = ms.length → VCalls gz 15 [A.1.enc false, .lst false 1 []] none (fun y _ => y = .tup [B.1.enc true, .lst true 1 (B.2.map intA)]) := fun h => by
          rw [h, List.drop_length] at M2
          exact M2
        refine draw_mk (L := ?La4) ?h1a4 ?h2a4
        case h1a4 =>
          simp only [go_sem, k3, hk, Int.natCast_nonneg, Nat.sub_zero, List.drop_zero, Int.le_refl, Nat.le_refl]
          repeat' first | refine And.intro ?_ ?_ | intro _
          all_goals first | contradiction | omega | skip
          all_goals
            refine call_lend ?_
            simp only [go_sem, k3, hk, Int.natCast_nonneg, Nat.sub_zero, List.drop_zero, Int.le_refl, Nat.le_refl]
            first | refine callN.eq M1 (by simp only [go_sem]) ?_ | refine callN.eq (N1 (by omega)) (by simp only [go_sem]) ?_
            simp only [go_sem, k3, hk, Int.natCast_nonneg, Nat.sub_zero, List.drop_zero, Int.le_refl, Nat.le_refl, false_implies, true_implies, and_true, true_and, and_self]
            repeat' first | refine And.intro ?_ ?_ | intro _
            all_goals first | omega | with_reducible exact rfl | exact mkE_perm (by kernel_rfl) | trace_state
        case h2a4 =>
          simp only [go_sem]
          refine draw_mk (L := ?Lb4) ?h1b4 ?h2b4
          case h1b4 =>
            simp only [go_sem, k3, hk, Int.natCast_nonneg, Nat.sub_zero, List.drop_zero, Int.le_refl, Nat.le_refl, f4, hsum, htk]
            repeat' first | refine And.intro ?_ ?_ | intro _
            all_goals first | contradiction | omega | skip
            all_goals
              refine call_lend ?_
              simp only [go_sem, k3, hk, Int.natCast_nonneg, Nat.sub_zero, List.drop_zero, Int.le_refl, Nat.le_refl, f4, hsum, htk]
              first | refine callN.eq M2 (by simp only [go_sem]) ?_ | refine callN.eq (N2 (by omega)) (by simp only [go_sem]) ?_
              simp only [go_sem, k3, hk, Int.natCast_nonneg, Nat.sub_zero, List.drop_zero, Int.le_refl, Nat.le_refl, f4, hsum, htk, false_implies, true_implies, and_true, true_and, and_self]
              repeat' first | refine And.intro ?_ ?_ | intro _
              all_goals first | omega | with_reducible exact rfl | exact mkE_perm (by kernel_rfl) | trace_state
          case h2b4 =>
            simp only [go_sem]
            have q1 := (Bnk.ans_len b ms).2.2
            have q2 := (Bnk.ans_len b (ms.take k)).2.2
            have q3 := (Bnk.ans_len A.1 (ms.drop k)).2.2
            rw [← hA] at q2
            rw [← hB] at q3
            refine call_lend ?_
            simp only [go_sem]
            refine callN.eq (ok16 B.1 (b.ans ms).1) (by simp only [go_sem]) ?_
            simp only [go_sem]
            try simp only [go_sem, eq_true ha.1]
            refine ⟨by omega, by omega, ?_⟩
            have hL := ok17 (A.2 ++ B.2) (b.ans ms).2
            rw [List.map_append] at hL
            have hs : toShds (A.2.map intA ++ B.2.map intA) = A.2.map intA ++ B.2.map intA := by
              rw [← List.map_append]
              exact toShds_flat fun _ => by simp only [go_sem]
            refine call_lend ?_
            simp only [go_sem, hs]
            refine callN.eq (hL) (by simp only [go_sem, hs]) ?_
            simp only [go_sem, hs]
            try simp only [go_sem, eq_true ha.2]
            refine call_lend ?_
            simp only [go_sem]
            refine callN.eq (ok13 m) (by simp only [go_sem]) ?_
            simp only [go_sem]
            try simp only [go_sem, e, hm]
            try rfl
end Go.VS

