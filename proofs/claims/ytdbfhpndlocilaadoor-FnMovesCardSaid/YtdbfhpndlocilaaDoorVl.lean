/- VS: functions by the machine. -/
import Derived.Test.YtdbfhpndlocilaaDoorVj
import Derived.Test.YtdbfhpndlocilaaDoorVk
set_option linter.unusedSimpArgs false
set_option linter.unusedVariables false
open Go.Proofs Go.RowKit
set_option maxRecDepth 20000
namespace Go.VS
theorem f7_at : gz.P.funcs[7]? = some Tryd.f7 := by
  have h : Tryd.prog.funcs[7]? = some Tryd.f7 := by kernel_rfl
  exact h
theorem f11_at : gz.P.funcs[11]? = some Tryd.f11 := by
  have h : Tryd.prog.funcs[11]? = some Tryd.f11 := by kernel_rfl
  exact h
theorem ok18 (l : List UInt8) : VCalls gz 18 [.lst false 1 (l.map byteA)] none (fun y _ => ∃ m : Mv, y = m.enc) := by
  refine VCalls.go (nt := 8) (keep := [0, 2, 3]) (muts := []) (mvs := []) [] f18_at rfl (by kernel_rfl) rfl (by kernel_rfl) rfl (fun i h => by cases h) rfl ?_
  intro hok
  simp only [go_sem] at hok
  simp only [Tryd.f18, Func.code, Option.getD_some]
  simp only [go_sem]
  refine call_share ?_
  simp only [go_sem]
  refine callS.use (ok20 l) ?_
  rintro _ _ ⟨h0, rfl⟩
  simp only [go_sem]
  refine call_mut 0 3 rfl rfl rfl (by simp only [go_sem]) ?_
  simp only [go_sem, List.set]
  refine callM.use ((ok21 (Cur.mk l 0 h0) (Int.le_refl 0))) ?_
  rintro _ _ ⟨m, i1, e1, rfl, p1, rfl⟩
  simp only [go_sem]
  exact ⟨m, rfl, rfl, rfl, rfl⟩
theorem ok5 (l : List UInt8) : VCalls gz 5 [.lst false 1 (l.map byteA)] none (fun y _ => ∃ m : Mv, y = m.enc) := by
  refine VCalls.go (nt := 5) (keep := [0, 2]) (muts := []) (mvs := []) [] f5_at rfl (by kernel_rfl) rfl (by kernel_rfl) rfl (fun i h => by cases h) rfl ?_
  intro hok
  simp only [go_sem] at hok
  simp only [Tryd.f5, Func.code, Option.getD_some]
  simp only [go_sem]
  refine call_lend ?_
  simp only [go_sem]
  refine callN.use (ok18 l) ?_
  rintro _ _ ⟨m, rfl⟩
  refine ⟨by simp only [go_sem], ?_⟩
  simp only [go_sem]
  exact ⟨m, rfl, rfl, rfl, rfl⟩
theorem ok7 (l : List UInt8) : VCalls gz 7 [.lst false 1 (l.map byteA)] none (fun y _ => ∃ t : ByteArray, y = .lit (.string t) ∧ t.size ≤ 200) := by
  refine VCalls.go (nt := 16) (keep := [0, 2, 3, 4, 11]) (muts := []) (mvs := []) [] f7_at rfl (by kernel_rfl) rfl (by kernel_rfl) rfl (fun i h => by cases h) rfl ?_
  intro hok
  simp only [go_sem] at hok
  simp only [Tryd.f7, Func.code, Option.getD_some]
  simp only [go_sem]
  refine call_share ?_
  simp only [go_sem]
  refine callS.use (ok20 l) ?_
  rintro _ _ ⟨h0, rfl⟩
  simp only [go_sem]
  refine call_mut 0 3 rfl rfl rfl (by simp only [go_sem]) ?_
  simp only [go_sem, List.set]
  refine callM.use ((ok21 (Cur.mk l 0 h0) (Int.le_refl 0))) ?_
  rintro _ _ ⟨m, i1, e1, rfl, p1, rfl⟩
  simp only [go_sem]
  refine call_lend ?_
  simp only [go_sem]
  refine callN.eq (ok10 m) (by simp only [go_sem]) ?_
  simp only [go_sem]
  have hs := Mv.sh_size m
  refine call_mut 0 3 rfl rfl rfl (by simp only [go_sem]) ?_
  simp only [go_sem, List.set]
  refine callM.use ((ok22 (Cur.mk l i1 e1) p1 2)) ?_
  rintro _ _ ⟨b2, i2, e2, rfl, p2, rfl⟩
  simp only [go_sem]
  cases b2
  · simp only [go_sem]
    exact ⟨_, rfl, by omega⟩
  simp only [go_sem]
  refine call_mut 0 3 rfl rfl rfl (by simp only [go_sem]) ?_
  simp only [go_sem, List.set]
  refine callM.use ((ok23 (Cur.mk l i2 e2) p2 m.sh ⟨#[48, 49, 57, 32, 45]⟩ (by omega) (by decide) (by decide))) ?_
  rintro _ _ ⟨t, i3, e3, rfl, p3, p4, rfl⟩
  simp only [go_sem]
  exact ⟨_, rfl, by omega⟩
set_option maxHeartbeats 2000000 in
theorem ok11 (l : List UInt8) : VCalls gz 11 [.lst false 1 (l.map byteA)] none (fun y _ => ∃ (b : Bnk) (ms : List ByteArray), y = .tup [b.enc false, .lst true 1 (ms.map strA)] ∧ b.sml ∧ ms.length ≤ 6 ∧ ∀ s ∈ ms, s.size ≤ 200) := by
  refine VCalls.go (nt := 48) (keep := [0, 2, 3, 4, 5, 6, 7, 8, 9, 19, 31]) (muts := []) (mvs := [13,2014,2033,2036,2046]) [] f11_at rfl (by kernel_rfl) rfl (by kernel_rfl) rfl (fun i h => by cases h) rfl ?_
  intro hok
  simp only [go_sem] at hok
  simp only [Tryd.f11, Func.code, Option.getD_some]
  simp only [go_sem]
  refine call_share ?_
  simp only [go_sem]
  refine callS.use (ok20 l) ?_
  rintro _ _ ⟨h0, rfl⟩
  simp only [go_sem]
  refine call_mut 0 4 rfl rfl rfl (by simp only [go_sem]) ?_
  simp only [go_sem, List.set]
  refine callM.use (ok30 (Cur.mk l 0 h0) (Int.le_refl 0)) ?_
  rintro _ _ ⟨B0, o0, i1, e1, rfl, ⟨s1, s2⟩, p1, rfl⟩
  cases o0
  all_goals
    simp only [go_sem]
    refine call_mut 0 4 rfl rfl rfl (by simp only [go_sem]) ?_
    simp only [go_sem, List.set]
    refine callM.use ((ok31 (Cur.mk l i1 e1) p1 6)) ?_
    rintro _ _ ⟨k2, i2, e2, rfl, q1, q2, q3, q4, rfl⟩
    simp only [go_sem]
    have q5 := q2 (by decide)
    refine vm_loopK (α := Nat × (Bnk × Bool) × List ByteArray × Int × Int) (fun q => [(2, .ptr true (Bnk.enc true ⟨[], []⟩)), (4, .ptr true (Cur.mk l q.2.2.2.1 q.2.2.2.2).enc), (5, .ptr true (B0.enc false)), (6, .ptr true (q.2.1.1.enc q.2.1.2)), (7, .lst true 1 (q.2.2.1.map strA)), (8, .lit (.int .i64 q.1))]) (fun q => q.1 + q.2.2.1.length ≤ 6 ∧ q.2.1.1.sml ∧ (∀ s ∈ q.2.2.1, s.size ≤ 200) ∧ 0 ≤ q.2.2.2.1) (fun q => q.1) (k2.toNat, (B0, false), [], i2, e2) ?_ ⟨by simp only [List.length_nil]; omega, ⟨s1, s2⟩, by simp, q4⟩ (by kernel_rfl) (fun _ => rfl) ?_
    · simp only [go_sem]
      omega
    · rintro ⟨n, ⟨B, o⟩, ms, j, h⟩ ⟨hn, ⟨hB1, hB2⟩, hms, hj⟩ hk
      simp only at hn hB1 hB2 hms hj
      cases o
      case' false =>
        simp only [go_sem]
        first | refine branch_ndec (fun h6 => ?_) (fun h6 => ?_) | refine branch_dec (fun h6 => ?_) (fun h6 => ?_) | refine branch_nbool (fun h6 => ?_) (fun h6 => ?_) | refine branch_split (fun h6 => ?_) (fun h6 => ?_)
        rotate_left
        · simp only [go_sem]
          exact ⟨B0, ms, ⟨⟨rfl, rfl⟩, rfl⟩, ⟨s1, s2⟩, by omega, hms⟩
        have hw3 : IntKind.i64.wrap ((n : Int) - 1) = ((n - 1 : Nat) : Int) := by rw [wrap64 (by omega) (by omega)]; omega
        simp only [go_sem]
        refine call_mut 0 4 rfl rfl rfl (by simp only [go_sem]) ?_
        simp only [go_sem, List.set]
        refine callM.use ((ok21 (Cur.mk l j h) hj)) ?_
        rintro _ _ ⟨m, i3, e3, rfl, r1, rfl⟩
        simp only [go_sem]
        refine call_lend ?_
        simp only [go_sem]
        refine callN.eq (ok10 m) (by simp only [go_sem]) ?_
        simp only [go_sem]
        have hs := Mv.sh_size m
        refine call_mut 0 4 rfl rfl rfl (by simp only [go_sem]) ?_
        simp only [go_sem, List.set]
        refine callM.use ((ok22 (Cur.mk l i3 e3) r1 3)) ?_
        rintro _ _ ⟨b4, i4, e4, rfl, r2, rfl⟩
        simp only [go_sem]
        cases b4
        · simp only [go_sem]
          refine call_lend ?_
          simp only [go_sem]
          refine callN.eq (ok12 B) (by simp only [go_sem]) ?_
          simp only [go_sem]
          cases hok : B.ok
          · simp only [go_sem]
            refine ⟨by omega, ?_⟩
            refine again_intro (n - 1, (B, false), ms ++ [m.sh], i4, e4) ⟨by simp only [List.length_append, List.length_cons, List.length_nil]; omega, ⟨hB1, hB2⟩, fun s hs => by rcases List.mem_append.1 hs with h9 | h9; exact hms s h9; rw [List.mem_singleton.1 h9]; omega, r2⟩ (by simp only; omega) ?_
            simp only [go_sem, hw3, List.map_append, List.map_cons, List.map_nil]
            try trivial
          · have ha : ∀ s : ByteArray, (B.ans [s]).1.ok = true := fun s => by
              have : B.ans [s] = B.run [s] [s].length := if_pos hok
              rw [this]
              exact (Bnk.run_ok hok [s] _).1
            simp only [go_sem]
            refine call_mut 0 4 rfl rfl rfl (by simp only [go_sem]) ?_
            simp only [go_sem, List.set]
            refine callM.use ((ok32 (Cur.mk l i4 e4) r2 B)) ?_
            rintro _ _ ⟨s, i5, e5, rfl, u1, u2, rfl⟩
            simp only [go_sem]
            refine call_lend ?_
            simp only [go_sem]
            refine callN.eq (ok33 B [s] (by omega) (by omega) (by simp) (fun x hx => by rw [List.mem_singleton.1 hx]; omega)) (by simp only [go_sem]) ?_
            simp only [go_sem]
            have hl2 := Bnk.ok_len (ha s)
            try simp only [go_sem]
            refine ⟨by omega, ?_⟩
            refine again_intro (n - 1, ((B.ans [s]).1, true), ms ++ [s], i5, e5) ⟨by simp only [List.length_append, List.length_cons, List.length_nil]; omega, ⟨by simp only; omega, by simp only; omega⟩, fun x hx => by rcases List.mem_append.1 hx with h9 | h9; exact hms x h9; rw [List.mem_singleton.1 h9]; omega, u2⟩ (by simp only; omega) ?_
            simp only [go_sem, hw3, List.map_append, List.map_cons, List.map_nil]
            try trivial
        · simp only [go_sem]
          refine ⟨by omega, ?_⟩
          refine again_intro (n - 1, (B, false), ms ++ [m.sh], i4, e4) ⟨by simp only [List.length_append, List.length_cons, List.length_nil]; omega, ⟨hB1, hB2⟩, fun s hs => by rcases List.mem_append.1 hs with h9 | h9; exact hms s h9; rw [List.mem_singleton.1 h9]; omega, r2⟩ (by simp only; omega) ?_
          simp only [go_sem, hw3, List.map_append, List.map_cons, List.map_nil]
          try trivial
      case' true =>
        simp only [go_sem]
        first | refine branch_ndec (fun h6 => ?_) (fun h6 => ?_) | refine branch_dec (fun h6 => ?_) (fun h6 => ?_) | refine branch_nbool (fun h6 => ?_) (fun h6 => ?_) | refine branch_split (fun h6 => ?_) (fun h6 => ?_)
        rotate_left
        · simp only [go_sem]
          exact ⟨B0, ms, ⟨⟨rfl, rfl⟩, rfl⟩, ⟨s1, s2⟩, by omega, hms⟩
        have hw3 : IntKind.i64.wrap ((n : Int) - 1) = ((n - 1 : Nat) : Int) := by rw [wrap64 (by omega) (by omega)]; omega
        simp only [go_sem]
        refine call_mut 0 4 rfl rfl rfl (by simp only [go_sem]) ?_
        simp only [go_sem, List.set]
        refine callM.use ((ok21 (Cur.mk l j h) hj)) ?_
        rintro _ _ ⟨m, i3, e3, rfl, r1, rfl⟩
        simp only [go_sem]
        refine call_lend ?_
        simp only [go_sem]
        refine callN.eq (ok10 m) (by simp only [go_sem]) ?_
        simp only [go_sem]
        have hs := Mv.sh_size m
        refine call_mut 0 4 rfl rfl rfl (by simp only [go_sem]) ?_
        simp only [go_sem, List.set]
        refine callM.use ((ok22 (Cur.mk l i3 e3) r1 3)) ?_
        rintro _ _ ⟨b4, i4, e4, rfl, r2, rfl⟩
        simp only [go_sem]
        cases b4
        · simp only [go_sem]
          refine call_lend ?_
          simp only [go_sem]
          refine callN.eq (ok12 B) (by simp only [go_sem]) ?_
          simp only [go_sem]
          cases hok : B.ok
          · simp only [go_sem]
            refine ⟨by omega, ?_⟩
            refine again_intro (n - 1, (B, true), ms ++ [m.sh], i4, e4) ⟨by simp only [List.length_append, List.length_cons, List.length_nil]; omega, ⟨hB1, hB2⟩, fun s hs => by rcases List.mem_append.1 hs with h9 | h9; exact hms s h9; rw [List.mem_singleton.1 h9]; omega, r2⟩ (by simp only; omega) ?_
            simp only [go_sem, hw3, List.map_append, List.map_cons, List.map_nil]
            try trivial
          · have ha : ∀ s : ByteArray, (B.ans [s]).1.ok = true := fun s => by
              have : B.ans [s] = B.run [s] [s].length := if_pos hok
              rw [this]
              exact (Bnk.run_ok hok [s] _).1
            simp only [go_sem]
            refine call_mut 0 4 rfl rfl rfl (by simp only [go_sem]) ?_
            simp only [go_sem, List.set]
            refine callM.use ((ok32 (Cur.mk l i4 e4) r2 B)) ?_
            rintro _ _ ⟨s, i5, e5, rfl, u1, u2, rfl⟩
            simp only [go_sem]
            refine call_lend ?_
            simp only [go_sem]
            refine callN.eq (ok33 B [s] (by omega) (by omega) (by simp) (fun x hx => by rw [List.mem_singleton.1 hx]; omega)) (by simp only [go_sem]) ?_
            simp only [go_sem]
            have hl2 := Bnk.ok_len (ha s)
            try simp only [go_sem]
            refine ⟨by omega, ?_⟩
            refine again_intro (n - 1, ((B.ans [s]).1, true), ms ++ [s], i5, e5) ⟨by simp only [List.length_append, List.length_cons, List.length_nil]; omega, ⟨by simp only; omega, by simp only; omega⟩, fun x hx => by rcases List.mem_append.1 hx with h9 | h9; exact hms x h9; rw [List.mem_singleton.1 h9]; omega, u2⟩ (by simp only; omega) ?_
            simp only [go_sem, hw3, List.map_append, List.map_cons, List.map_nil]
            try trivial
        · simp only [go_sem]
          refine ⟨by omega, ?_⟩
          refine again_intro (n - 1, (B, true), ms ++ [m.sh], i4, e4) ⟨by simp only [List.length_append, List.length_cons, List.length_nil]; omega, ⟨hB1, hB2⟩, fun s hs => by rcases List.mem_append.1 hs with h9 | h9; exact hms s h9; rw [List.mem_singleton.1 h9]; omega, r2⟩ (by simp only; omega) ?_
          simp only [go_sem, hw3, List.map_append, List.map_cons, List.map_nil]
          try trivial
end Go.VS


set_option linter.unusedSimpArgs false
set_option linter.unusedVariables false
open Go.Proofs Go.RowKit
set_option maxRecDepth 20000
namespace Go.VS
end Go.VS

