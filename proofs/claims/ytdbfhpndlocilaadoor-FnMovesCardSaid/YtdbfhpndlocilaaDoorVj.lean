/- VS: functions by the machine. -/
import Derived.Test.YtdbfhpndlocilaaDoorVi
import Derived.Test.YtdbfhpndlocilaaDoorVf
import Derived.Test.YtdbfhpndlocilaaDoorVn
set_option linter.unusedSimpArgs false
set_option linter.unusedVariables false
open Go.Proofs
set_option maxRecDepth 20000
namespace Go.VS
theorem modify_intB {i : Nat} {xs : List Int} {v : Int} : (xs.map intA).modify i (putF [] (.lit (.int .i64 v))) = (xs.set i v).map intA := modify_enc (f := intA) rfl
attribute [go_sem] modify_intB
def intM (x : Int) (k : Int) : Int × Int := (k, k + 1)
theorem intM_c : mkC intM (fun _ => 1) := fun x k => rfl
theorem Vot.put0 {xs : List Vot} {i : Nat} {a : Int} : (xs.map Vot.enc).modify i (putF [0] (.lit (.int .i64 a))) = (xs.modify i (fun p => { p with view := a })).map Vot.enc := modify_flds _ fun x => rfl
theorem Vot.put1 {xs : List Vot} {i : Nat} {a : Int} : (xs.map Vot.enc).modify i (putF [1] (.lit (.int .i64 a))) = (xs.modify i (fun p => { p with name := a })).map Vot.enc := modify_flds _ fun x => rfl
theorem Vot.put2 {xs : List Vot} {i : Nat} {a : Int} : (xs.map Vot.enc).modify i (putF [2] (.lit (.int .i64 a))) = (xs.modify i (fun p => { p with bY := a })).map Vot.enc := modify_flds _ fun x => rfl
theorem Vot.put3 {xs : List Vot} {i : Nat} {a : Int} : (xs.map Vot.enc).modify i (putF [3] (.lit (.int .i64 a))) = (xs.modify i (fun p => { p with tag := a })).map Vot.enc := modify_flds _ fun x => rfl
theorem Nws.put0 {xs : List Nws} {i : Nat} {a : Int} : (xs.map Nws.enc).modify i (putF [0] (.lit (.int .i64 a))) = (xs.modify i (fun p => { p with view := a })).map Nws.enc := modify_flds _ fun x => rfl
theorem Nws.put1 {xs : List Nws} {i : Nat} {a : Int} : (xs.map Nws.enc).modify i (putF [1] (.lit (.int .i64 a))) = (xs.modify i (fun p => { p with src := a })).map Nws.enc := modify_flds _ fun x => rfl
attribute [go_sem] Vot.put0 Vot.put1 Vot.put2 Vot.put3 Nws.put0 Nws.put1
def Vot.mk4 (v : Vot) (k : Int) : Vot × Int := (⟨k, k + 1, k + 2, k + 3⟩, k + 4)
theorem Vot.mk4_c : mkC Vot.mk4 (fun _ => 4) := fun x k => rfl
def Nws.mk2 (v : Nws) (k : Int) : Nws × Int := (⟨k, k + 1⟩, k + 2)
theorem Nws.mk2_c : mkC Nws.mk2 (fun _ => 2) := fun x k => rfl
end Go.VS


set_option linter.unusedSimpArgs false
set_option linter.unusedVariables false
open Go.Proofs
set_option maxRecDepth 20000
namespace Go.VS
theorem blkNoRefs {own : Bool} {xs : List Blk} : noRefs (xs.map (Blk.enc own)) = true := noRefs_map fun x => by simp only [go_sem]
theorem blkClosed {xs : List Blk} : closedAs (xs.map (Blk.enc true)) = true := closedAs_map fun x => by simp only [go_sem]
theorem blkFlat {xs : List Blk} : flatAs (xs.map (Blk.enc false)) = true := flatAs_map fun x => by simp only [go_sem]
theorem blkShds {own : Bool} {xs : List Blk} : toShds (xs.map (Blk.enc own)) = xs.map (Blk.enc false) := toShds_mapTo fun x => by cases own <;> simp only [go_sem]
attribute [go_sem] blkNoRefs blkClosed blkFlat blkShds
end Go.VS


set_option linter.unusedSimpArgs false
set_option linter.unusedVariables false
open Go.Proofs
set_option maxRecDepth 20000
namespace Go.VS
theorem mkL_rng {α : Type} (f : α → Int → α × Int) {w : α → Nat} (h : mkC f w) (xs : List α) (k : Int) : (mkL f xs k).2 = k + (tot w xs : Nat) := by
  have := mkN_add f h xs k xs.length
  rw [mkN_all, List.take_length] at this
  exact this
theorem tot_const {α : Type} (c : Nat) (xs : List α) : tot (fun _ => c) xs = xs.length * c := by
  unfold tot
  induction xs with
  | nil => simp
  | cons x xs ih => simp only [List.map_cons, List.sum_cons, List.length_cons, ih, Nat.add_mul, Nat.one_mul]; omega
def iM (xs : List Int) (k : Int) : List Int := (mkL intM xs k).1
def sM (xs : List ByteArray) (k : Int) : List ByteArray := (mkL strM xs k).1
theorem iM_snd (xs : List Int) (k : Int) : (mkL intM xs k).2 = k + (xs.length : Int) := by rw [mkL_rng _ intM_c, tot_const]; simp
theorem sM_snd (xs : List ByteArray) (k : Int) : (mkL strM xs k).2 = k + (xs.length : Int) := by rw [mkL_rng _ strM_c, tot_const]; simp
theorem iM_len (xs : List Int) (k : Int) : (iM xs k).length = xs.length := mkL_length _ _ _
theorem sM_len (xs : List ByteArray) (k : Int) : (sM xs k).length = xs.length := mkL_length _ _ _
theorem tot_getD {α : Type} [Inhabited α] {w : α → Nat} {xs : List α} {i : Nat} (h : i < xs.length) (k : Int) {f : α → Int → α × Int} (hf : mkC f w) : mkN f xs k i + (w (xs.getD i default) : Nat) ≤ k + (tot w xs : Nat) := by
  have h1 := (mkN_succ f xs k i h).1
  have h2 := (mkN_rng f hf xs k (i + 1)).2
  rw [hf] at h1
  omega
/-- the marks of a proof's lists -/
def Prf.mw (p : Prf) : Nat := p.bys.length + p.tags.length
def Prf.mkP (p : Prf) (k : Int) : Prf × Int := (⟨p.view, p.name, iM p.bys k, iM p.tags (k + p.bys.length)⟩, k + p.mw)
theorem Blk.put0 {xs : List Blk} {o : Bool} {i : Nat} {a : Int} : (xs.map (Blk.enc o)).modify i (putF [0] (.lit (.int .i64 a))) = (xs.modify i (fun p => { p with view := a })).map (Blk.enc o) := modify_flds _ fun x => rfl
theorem Blk.put1 {xs : List Blk} {o : Bool} {i : Nat} {a : Int} : (xs.map (Blk.enc o)).modify i (putF [1] (.lit (.int .i64 a))) = (xs.modify i (fun p => { p with parent := a })).map (Blk.enc o) := modify_flds _ fun x => rfl
theorem Blk.put20 {xs : List Blk} {o : Bool} {i : Nat} {a : Int} : (xs.map (Blk.enc o)).modify i (putF [2, 0] (.lit (.int .i64 a))) = (xs.modify i (fun p => { p with proof := { p.proof with view := a } })).map (Blk.enc o) := modify_flds _ fun x => rfl
theorem Blk.put21 {xs : List Blk} {o : Bool} {i : Nat} {a : Int} : (xs.map (Blk.enc o)).modify i (putF [2, 1] (.lit (.int .i64 a))) = (xs.modify i (fun p => { p with proof := { p.proof with name := a } })).map (Blk.enc o) := modify_flds _ fun x => rfl
theorem Blk.put4 {xs : List Blk} {o : Bool} {i : Nat} {a : Int} : (xs.map (Blk.enc o)).modify i (putF [4] (.lit (.int .i64 a))) = (xs.modify i (fun p => { p with bY := a })).map (Blk.enc o) := modify_flds _ fun x => rfl
theorem Blk.putL22 {xs : List Blk} {i : Nat} {ys : List Int} : (xs.map (Blk.enc true)).modify i (putP [.fld 2, .fld 2] (.lst true 1 (ys.map intA))) = (xs.modify i (fun p => { p with proof := { p.proof with bys := ys } })).map (Blk.enc true) := modify_flds _ fun x => rfl
theorem Blk.putL23 {xs : List Blk} {i : Nat} {ys : List Int} : (xs.map (Blk.enc true)).modify i (putP [.fld 2, .fld 3] (.lst true 1 (ys.map intA))) = (xs.modify i (fun p => { p with proof := { p.proof with tags := ys } })).map (Blk.enc true) := modify_flds _ fun x => rfl
theorem Blk.putL3 {xs : List Blk} {i : Nat} {ys : List ByteArray} : (xs.map (Blk.enc true)).modify i (putP [.fld 3] (.lst true 1 (ys.map strA))) = (xs.modify i (fun p => { p with moves := ys })).map (Blk.enc true) := modify_flds _ fun x => rfl
attribute [go_sem] putP_lst Blk.put0 Blk.put1 Blk.put20 Blk.put21 Blk.put4 Blk.putL22 Blk.putL23 Blk.putL3
theorem getD_mod {L : List Blk} {i : Nat} {B : Blk} (h : i < L.length) (hb : L.getD i default = B) (f : Blk → Blk) : (L.modify i f).getD i default = f B := by
  simp [List.getD, List.getElem?_modify, h] at hb ⊢
  rw [hb]
/-- the marks of a block in a list -/
def Blk.mw (b : Blk) : Nat := 5 + b.proof.bys.length + b.proof.tags.length + b.moves.length
def Blk.mkB (b : Blk) (k : Int) : Blk × Int := (⟨k, k + 1, ⟨k + 2, k + 3, iM b.proof.bys (k + 4), iM b.proof.tags (k + 4 + b.proof.bys.length)⟩, sM b.moves (k + 4 + b.proof.bys.length + b.proof.tags.length), k + 4 + b.proof.bys.length + b.proof.tags.length + b.moves.length⟩, k + b.mw)
theorem Blk.mkB_c : mkC Blk.mkB Blk.mw := fun x k => rfl
end Go.VS


set_option linter.unusedSimpArgs false
set_option linter.unusedVariables false
open Go.Proofs Go.RowKit
set_option maxRecDepth 20000
namespace Go.VS
def Bnk.sz (b : Bnk) : Nat := b.money.length + b.counts.length
def Bnk.mkK (b : Bnk) (k : Int) : Bnk := ⟨iM b.money k, iM b.counts (k + b.money.length)⟩
theorem mem_szL : ∀ {l : List ByteArray} {s : ByteArray}, s ∈ l → s.size ≤ szL ByteArray.size l
  | [], s, h => by simp at h
  | x :: xs, s, h => by
    have e : szL ByteArray.size (x :: xs) = 1 + x.size + szL ByteArray.size xs := by simp [szL]; omega
    rcases List.mem_cons.1 h with rfl | h
    · omega
    · have := mem_szL h
      omega
theorem len_szL {l : List ByteArray} : l.length ≤ szL ByteArray.size l := by unfold szL; omega
theorem Bnk.ans_len (b : Bnk) (l : List ByteArray) : (b.ans l).1.money.length ≤ 8 ∧ (b.ans l).1.counts.length ≤ 8 ∧ (b.ans l).2.length ≤ l.length := by
  unfold Bnk.ans
  split
  · rename_i h
    have h1 := Bnk.ok_len (Bnk.run_ok h l l.length).1
    have h2 := Bnk.run_len b l l.length
    omega
  · simp
end Go.VS


set_option linter.unusedSimpArgs false
set_option linter.unusedVariables false
open Go.Proofs Go.RowKit
set_option maxRecDepth 20000
namespace Go.VS
theorem f30_at : gz.P.funcs[30]? = some Tryd.f30 := by
  have h : Tryd.prog.funcs[30]? = some Tryd.f30 := by kernel_rfl
  exact h
def Bnk.sml (b : Bnk) : Prop := b.money.length ≤ 8 ∧ b.counts.length ≤ 8
theorem Bnk.ans_sml (b : Bnk) (l : List ByteArray) : (b.ans l).1.sml := ⟨(Bnk.ans_len b l).1, (Bnk.ans_len b l).2.1⟩
theorem Bnk.new_ok : Bnk.ok ⟨List.replicate 8 1000, List.replicate 8 0⟩ = true := by decide
set_option maxHeartbeats 4000000 in
theorem ok30 (c : Cur) (hc : 0 ≤ c.i) : VCalls gz 30 [.ptr true c.enc] (some 0) (fun y x' => ∃ (b : Bnk) (o : Bool) (i h : Int), y = b.enc o ∧ b.sml ∧ 0 ≤ i ∧ x' = (Cur.mk c.b i h).enc) := by
  refine VCalls.go (nt := 52) (keep := [0, 2, 3, 4, 9, 22, 24, 25, 35, 45]) (muts := [0]) (mvs := [14,2013,2015,2048]) [(5, .tree false (.take 1 (.all (.cons 0 (.all (.cons 2 (.all (.cons 3 (.all (.cons 4 (.all (.cons 5 (.take 6 (.take 7 (.take 8 (.all (.cons 9 .done .nil))))) .nil)) .nil)) .nil)) .nil)) (.cons 2 (.all (.cons 0 (.all (.cons 3 (.all (.cons 4 (.all (.cons 5 (.take 6 (.take 7 (.take 8 (.all (.cons 9 .done .nil))))) .nil)) .nil)) .nil)) (.cons 3 (.all (.cons 0 (.all (.cons 4 (.all (.cons 5 (.take 6 (.take 7 (.take 8 (.all (.cons 9 .done .nil))))) .nil)) .nil)) (.cons 4 (.all (.cons 0 (.all (.cons 5 (.take 6 (.take 7 (.take 8 (.all (.cons 9 .done .nil))))) .nil)) .nil)) .nil))) .nil))) .nil))))), (9, .tree false (.take 0 (.take 3 (.all (.cons 1 (.all (.cons 2 (.all (.cons 4 (.take 5 (.all (.cons 6 (.take 7 (.all (.cons 8 .done .nil))) .nil))) .nil)) (.cons 4 (.all (.cons 2 (.take 5 (.all (.cons 6 (.take 7 (.all (.cons 8 .done .nil))) .nil))) .nil)) .nil))) (.cons 2 (.all (.cons 1 (.all (.cons 4 (.take 5 (.all (.cons 6 (.take 7 (.all (.cons 8 .done .nil))) .nil))) .nil)) (.cons 4 (.take 5 (.all (.cons 1 (.all (.cons 6 (.take 7 (.all (.cons 8 .done .nil))) .nil)) (.cons 6 (.all (.cons 1 (.take 7 (.all (.cons 8 .done .nil))) .nil)) .nil)))) .nil))) (.cons 4 (.all (.cons 1 (.all (.cons 2 (.take 5 (.all (.cons 6 (.take 7 (.all (.cons 8 .done .nil))) .nil))) .nil)) (.cons 2 (.take 5 (.all (.cons 1 (.all (.cons 6 (.take 7 (.all (.cons 8 .done .nil))) .nil)) (.cons 6 (.all (.cons 1 (.take 7 (.all (.cons 8 .done .nil))) .nil)) .nil)))) .nil))) .nil))))))), (11, .tree false (.take 0 (.take 3 (.all (.cons 1 (.all (.cons 2 (.all (.cons 4 (.take 5 (.all (.cons 6 (.take 7 (.all (.cons 8 .done .nil))) .nil))) .nil)) (.cons 4 (.all (.cons 2 (.take 5 (.all (.cons 6 (.take 7 (.all (.cons 8 .done .nil))) .nil))) .nil)) .nil))) (.cons 2 (.all (.cons 1 (.all (.cons 4 (.take 5 (.all (.cons 6 (.take 7 (.all (.cons 8 .done .nil))) .nil))) .nil)) (.cons 4 (.take 5 (.all (.cons 1 (.all (.cons 6 (.take 7 (.all (.cons 8 .done .nil))) .nil)) (.cons 6 (.all (.cons 1 (.take 7 (.all (.cons 8 .done .nil))) .nil)) .nil)))) .nil))) (.cons 4 (.all (.cons 1 (.all (.cons 2 (.take 5 (.all (.cons 6 (.take 7 (.all (.cons 8 .done .nil))) .nil))) .nil)) (.cons 2 (.take 5 (.all (.cons 1 (.all (.cons 6 (.take 7 (.all (.cons 8 .done .nil))) .nil)) (.cons 6 (.all (.cons 1 (.take 7 (.all (.cons 8 .done .nil))) .nil)) .nil)))) .nil))) .nil)))))))] f30_at rfl (by kernel_rfl) rfl (by kernel_rfl) rfl (fun i h => by cases h; exact ⟨rfl, by simp⟩) rfl ?_
  intro hok
  simp only [go_sem] at hok
  simp only [Tryd.f30, Func.code, Option.getD_some]
  simp only [go_sem]
  refine call_lend ?_
  simp only [go_sem]
  refine callN.eq (ok45) (by simp only [go_sem]) ?_
  simp only [go_sem]
  refine call_mut 0 0 rfl rfl rfl (by simp only [go_sem]) ?_
  simp only [go_sem, List.set]
  refine callM.use ((ok31 c hc 6)) ?_
  rintro _ _ ⟨k1, i1, e1, rfl, p1, p2, p3, p4, rfl⟩
  simp only [go_sem]
  obtain ⟨B0, hB0⟩ : ∃ B : Bnk, B = ⟨List.replicate 8 1000, List.replicate 8 0⟩ := ⟨_, rfl⟩
  refine vm_loopK (α := Nat × Bnk × Int × Int) (fun q => [(0, .ptr true (Cur.mk c.b q.2.2.1 q.2.2.2).enc), (2, .ptr true (Bnk.enc true ⟨[], []⟩)), (3, .ptr true (q.2.1.enc true)), (4, .lit (.int .i64 q.1))]) (fun q => q.1 ≤ 6 ∧ q.2.1.ok = true ∧ 0 ≤ q.2.2.1) (fun q => q.1) (k1.toNat, B0, i1, e1) ?_ ⟨by simp only; omega, by show Bnk.ok B0 = true; rw [hB0]; exact Bnk.new_ok, p4⟩ (by kernel_rfl) (fun _ => rfl) ?_
  · subst hB0
    simp only [go_sem]
    omega
  · rintro ⟨n, B, j, h⟩ ⟨hn, hB, hj⟩ hk
    simp only at hn hB hj
    have hB1 := (Bnk.ok_len hB).1
    have hB2 := (Bnk.ok_len hB).2
    simp only [go_sem]
    first | refine branch_ndec (fun h6 => ?_) (fun h6 => ?_) | refine branch_dec (fun h6 => ?_) (fun h6 => ?_) | refine branch_nbool (fun h6 => ?_) (fun h6 => ?_) | refine branch_split (fun h6 => ?_) (fun h6 => ?_)
    · have hw3 : IntKind.i64.wrap ((n : Int) - 1) = ((n - 1 : Nat) : Int) := by rw [wrap64 (by omega) (by omega)]; omega
      have ha : ∀ s : ByteArray, (B.ans [s]).1.ok = true := fun s => by
        have : B.ans [s] = B.run [s] [s].length := if_pos hB
        rw [this]
        exact (Bnk.run_ok hB [s] _).1
      simp only [go_sem]
      repeat' refine And.intro ?_ ?_
      all_goals
        refine call_mut 0 0 rfl rfl rfl (by simp only [go_sem]) ?_
        simp only [go_sem, List.set]
        refine callM.use ((ok32 (Cur.mk c.b j h) hj B)) ?_
        rintro _ _ ⟨s, i2, e2, rfl, s1, s2, rfl⟩
        simp only [go_sem]
        repeat' refine And.intro ?_ ?_
        all_goals
          refine call_lend ?_
          simp only [go_sem]
          refine callN.eq (ok33 B [s] (by omega) (by omega) (by simp) (fun x hx => by rw [List.mem_singleton.1 hx]; omega)) (by simp only [go_sem]) ?_
          simp only [go_sem]
          have hl2 := Bnk.ok_len (ha s)
          try simp only [go_sem]
          refine again_intro (n - 1, (B.ans [s]).1, i2, e2) ⟨by simp only; omega, ha s, s2⟩ (by simp only; omega) ?_
          simp only [go_sem, hw3]
          try trivial
    · simp only [go_sem]
      refine call_mut 0 0 rfl rfl rfl (by simp only [go_sem]) ?_
      simp only [go_sem, List.set]
      refine callM.use ((ok22 (Cur.mk c.b j h) hj 12)) ?_
      rintro _ _ ⟨b5, i5, e5, rfl, u1, rfl⟩
      simp only [go_sem]
      cases b5
      · simp only [go_sem]
        exact ⟨B, true, _, _, ⟨⟨rfl, rfl⟩, rfl, rfl⟩, ⟨by omega, by omega⟩, u1, rfl, rfl⟩
      simp only [go_sem]
      refine call_mut 0 0 rfl rfl rfl (by simp only [go_sem]) ?_
      simp only [go_sem, List.set]
      refine callM.use ((ok31 (Cur.mk c.b i5 e5) u1 3)) ?_
      rintro _ _ ⟨k6, i6, e6, rfl, v1, v2, v3, v4, rfl⟩
      simp only [go_sem]
      by_cases g0 : k6 = 0
      · simp only [go_sem, eq_true g0]
        repeat' refine And.intro ?_ ?_
        all_goals
          refine call_mut 0 0 rfl rfl rfl (by simp only [go_sem]) ?_
          simp only [go_sem, List.set]
          refine callM.use ((ok31 (Cur.mk c.b i6 e6) v4 4)) ?_
          rintro _ _ ⟨kk, i7, e7, rfl, w1, w2, w3, w4, rfl⟩
          simp only [go_sem]
          have w5 := w2 (by decide)
          obtain rfl | rfl | rfl | rfl : kk = 0 ∨ kk = 1 ∨ kk = 2 ∨ kk = 3 := by omega
          all_goals
            try simp only [go_sem, hB1]
            exact ⟨by decide, by decide, ⟨List.take 8 (B.money.set 0 _), B.counts⟩, true, i7, e7, ⟨⟨rfl, rfl⟩, rfl, rfl⟩, ⟨by simp only [List.length_take]; omega, Nat.le_of_eq hB2⟩, w4, rfl, rfl⟩
      simp only [go_sem, g0]
      by_cases g1 : k6 = 1
      · simp only [go_sem, eq_true g1]
        repeat' refine And.intro ?_ ?_
        all_goals
          refine call_mut 0 0 rfl rfl rfl (by simp only [go_sem]) ?_
          simp only [go_sem, List.set]
          refine callM.use ((ok31 (Cur.mk c.b i6 e6) v4 3)) ?_
          rintro _ _ ⟨kk, i7, e7, rfl, w1, w2, w3, w4, rfl⟩
          simp only [go_sem]
          have w5 := w2 (by decide)
          obtain rfl | rfl | rfl : kk = 0 ∨ kk = 1 ∨ kk = 2 := by omega
          all_goals
            try simp only [go_sem, hB2]
            exact ⟨by decide, by decide, ⟨B.money, List.take 8 (B.counts.set 1 _)⟩, true, i7, e7, ⟨⟨rfl, rfl⟩, rfl, rfl⟩, ⟨Nat.le_of_eq hB1, by simp only [List.length_take]; omega⟩, w4, rfl, rfl⟩
      simp only [go_sem, g1]
      have g2 : k6 = 2 := by omega
      simp only [go_sem, eq_true g2, hB1]
      exact ⟨by decide, by decide, ⟨List.take 7 (List.drop 1 B.money), B.counts⟩, false, i6, e6, ⟨⟨rfl, rfl⟩, rfl, rfl⟩, ⟨by simp only [List.length_take]; omega, Nat.le_of_eq hB2⟩, v4, rfl, rfl⟩
end Go.VS

