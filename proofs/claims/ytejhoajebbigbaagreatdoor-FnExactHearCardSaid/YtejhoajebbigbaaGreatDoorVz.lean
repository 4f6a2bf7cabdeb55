/- VS: functions by the machine. -/
import Derived.Test.YtejhoajebbigbaaGreatDoorVp
import Derived.Test.YtejhoajebbigbaaGreatDoorVx
import Derived.Test.YtejhoajebbigbaaGreatDoorVy
set_option linter.unusedSimpArgs false
set_option linter.unusedVariables false
open Go.Proofs
set_option maxRecDepth 20000
namespace Go.VS
theorem f12_at : gz.P.funcs[12]? = some Tryz.f12 := by
 have h : Tryz.prog.funcs[12]? = some Tryz.f12 := by kernel_rfl
 exact h
theorem f11_at : gz.P.funcs[11]? = some Tryz.f11 := by
 have h : Tryz.prog.funcs[11]? = some Tryz.f11 := by kernel_rfl
 exact h
theorem ok12 (p q : Msg) : VCalls gz 12 [p.enc false, q.enc false] none (fun y _ => y = .lit (.bool (decide (p = q)))) := by
 refine VCalls.go (nt := 43) (keep := [0, 1, 2, 3, 4, 9, 14, 19, 24, 30, 36, 42]) (muts := []) (mvs := []) [] f12_at rfl (by kernel_rfl) rfl (by kernel_rfl) rfl (fun i h => by cases h) rfl ?_
 intro hok
 simp only [go_sem] at hok
 simp only [Tryz.f12, Func.code, Option.getD_some]
 simp only [go_sem]
 first | refine branch_ndec (fun h1 => ?_) (fun h1 => ?_) | refine branch_dec (fun h1 => ?_) (fun h1 => ?_) | refine branch_nbool (fun h1 => ?_) (fun h1 => ?_) | refine branch_split (fun h1 => ?_) (fun h1 => ?_)
 rotate_left
 ·have : ¬ p = q := fun e => h1 (by rw [e])
  simp only [go_sem, this]
 simp only [go_sem]
 first | refine branch_ndec (fun h2 => ?_) (fun h2 => ?_) | refine branch_dec (fun h2 => ?_) (fun h2 => ?_) | refine branch_nbool (fun h2 => ?_) (fun h2 => ?_) | refine branch_split (fun h2 => ?_) (fun h2 => ?_)
 rotate_left
 ·have : ¬ p = q := fun e => h2 (by rw [e])
  simp only [go_sem, this]
 simp only [go_sem]
 first | refine branch_ndec (fun h3 => ?_) (fun h3 => ?_) | refine branch_dec (fun h3 => ?_) (fun h3 => ?_) | refine branch_nbool (fun h3 => ?_) (fun h3 => ?_) | refine branch_split (fun h3 => ?_) (fun h3 => ?_)
 rotate_left
 ·have : ¬ p = q := fun e => h3 (by rw [e])
  simp only [go_sem, this]
 simp only [go_sem]
 first | refine branch_ndec (fun h4 => ?_) (fun h4 => ?_) | refine branch_dec (fun h4 => ?_) (fun h4 => ?_) | refine branch_nbool (fun h4 => ?_) (fun h4 => ?_) | refine branch_split (fun h4 => ?_) (fun h4 => ?_)
 rotate_left
 ·have : ¬ p = q := fun e => h4 (by rw [e])
  simp only [go_sem, this]
 simp only [go_sem]
 refine call_lend ?_
 simp only [go_sem]
 refine callN.eq (ok43 p.block q.block) (by simp only [go_sem]) ?_
 simp only [go_sem]
 by_cases h5 : p.block = q.block
 rotate_left
 ·have : ¬ p = q := fun e => h5 (by rw [e])
  simp only [go_sem, h5, this]
 simp only [go_sem, eq_true h5]
 refine call_lend ?_
 simp only [go_sem]
 refine callN.eq (ok44 p.vote q.vote) (by simp only [go_sem]) ?_
 simp only [go_sem]
 by_cases h6 : p.vote = q.vote
 rotate_left
 ·have : ¬ p = q := fun e => h6 (by rw [e])
  simp only [go_sem, h6, this]
 simp only [go_sem, eq_true h6]
 refine call_lend ?_
 simp only [go_sem]
 refine callN.eq (ok38 p.proof q.proof) (by simp only [go_sem]) ?_
 simp only [go_sem]
 by_cases h7 : p.proof = q.proof
 rotate_left
 ·have : ¬ p = q := fun e => h7 (by rw [e])
  simp only [go_sem, h7, this]
 simp only [go_sem, eq_true h7]
 have : p = q := by cases p; cases q; simp_all
 simp only [go_sem, eq_true this]
theorem ok11 (xs ys : List Msg) : VCalls gz 11 [.lst false 20 (xs.map (Msg.enc false)), .lst false 20 (ys.map (Msg.enc false))] none (fun y _ => y = .lit (.bool (decide (xs = ys)))) := by
 refine VCalls.go (nt := 27) (keep := [0, 1, 4, 5, 10, 14, 26]) (muts := []) (mvs := []) [(6, .tree true (.take 0 (.take 1 (.take 2 (.take 3 (.take 4 (.take 5 (.take 6 (.take 7 (.all (.cons 8 (.take 9 .done) .nil)))))))))))] f11_at rfl (by kernel_rfl) rfl (by kernel_rfl) rfl (fun i h => by cases h) rfl ?_
 intro hok
 simp only [go_sem] at hok
 simp only [Tryz.f11, Func.code, Option.getD_some]
 simp only [go_sem]
 intro hm hm2
 first | refine branch_ndec (fun h => ?_) (fun h => ?_) | refine branch_dec (fun h => ?_) (fun h => ?_) | refine branch_nbool (fun h => ?_) (fun h => ?_) | refine branch_split (fun h => ?_) (fun h => ?_)
 rotate_left
 ·simp only [go_sem]
  have : ¬ xs = ys := fun e => h (by rw [e])
  simp only [this, decide_false]
 ·have hll : xs.length = ys.length := by omega
  simp only [go_sem]
  refine vm_loopK (α := Nat) (fun i => [(0, .lst false 20 (xs.map (Msg.enc false))), (1, .lst false 20 (ys.map (Msg.enc false))), (4, .lit (.bool false)), (5, .lit (.int .i64 i))]) (fun i => i <= xs.length /\ ∀ j, j < i -> xs.getD j default = ys.getD j default) (fun i => xs.length - i) 0 ?_ ⟨by omega, fun j hj => by omega⟩ (by kernel_rfl) (fun _ => rfl) ?_
  ·simp only [go_sem]
   try trivial
  ·rintro i ⟨hi, he⟩ hk
   simp only [go_sem]
   intro _
   first | refine branch_ndec (fun h2 => ?_) (fun h2 => ?_) | refine branch_dec (fun h2 => ?_) (fun h2 => ?_) | refine branch_nbool (fun h2 => ?_) (fun h2 => ?_) | refine branch_split (fun h2 => ?_) (fun h2 => ?_)
   ·have hlt : i < xs.length := by omega
    have hlt2 : i < ys.length := by omega
    have h0 : (0 : Int) <= (i : Int) := by omega
    have h3 : (i : Int) < (ys.length : Int) := by omega
    have hw3 : IntKind.i64.wrap ((i : Int) + 1) = ((i + 1 : Nat) : Int) := by rw [wrap64 (by omega) (by omega)]; omega
    simp only [go_sem, h0, hlt, h2, hlt2, h3]
    repeat' refine And.intro ?_ ?_
    all_goals
     refine call_lend ?_
     simp only [go_sem]
     refine callN.eq (ok12 (xs.getD i default) (ys.getD i default)) (by simp only [go_sem]) ?_
     simp only [go_sem]
     by_cases h4 : xs.getD i default = ys.getD i default
     ·simp only [go_sem, hw3, h4]
      refine again_intro (i + 1) ⟨by omega, fun j hj => ?_⟩ (by omega) ?_
      ·by_cases hji : j < i
       ·exact he j hji
       ·have : j = i := by omega
        subst this
        exact h4
      ·simp only [go_sem]
       try trivial
     ·simp only [go_sem, h4]
      have : ¬ xs = ys := fun e => h4 (by rw [e])
      simp only [this, decide_false]
   ·simp only [go_sem]
    have : i = xs.length := by omega
    subst this
    have : xs = ys := ext_getD hll he
    simp only [this, decide_true]
end Go.VS
set_option linter.unusedSimpArgs false
set_option linter.unusedVariables false
open Go.Proofs
set_option maxRecDepth 20000
namespace Go.VS
theorem f3_at : gz.P.funcs[3]? = some Tryz.f3 := by
 have h : Tryz.prog.funcs[3]? = some Tryz.f3 := by kernel_rfl
 exact h
theorem Rpl.tkV_blocks (r : Rpl) (v : Vot) : (r.tkV v).blocks = r.blocks := by
 unfold Rpl.tkV
 split
 ·split
  ·exact (Rpl.tkP_keeps _ _).1
  ·rfl
 ·rfl
theorem Rpl.tkN_blocks (r : Rpl) (x : Nws) : (r.tkN x).blocks = r.blocks := by
 unfold Rpl.tkN
 split <;> rfl
theorem Rpl.tkB_blocks (r : Rpl) (b : Blk) : (r.tkB b).1.blocks = r.blocks \/ (r.tkB b).1.blocks = r.blocks ++ [b] := by
 have h0 : (r.tkB0 b).blocks = r.blocks ++ [b] := (Rpl.tkP_keeps ({ r with blocks := r.blocks ++ [b] } : Rpl) b.proof).1
 unfold Rpl.tkB
 split
 ·refine .inr ?_
  split
  ·exact h0
  ·split
   ·exact (Rpl.tkV_blocks _ _).trans h0
   ·exact h0
 ·exact .inl rfl
theorem Rpl.hr_blocks (r : Rpl) (m : Msg) : (r.hr m).1.blocks = r.blocks \/ (r.hr m).1.blocks = r.blocks ++ [m.block] := by
 unfold Rpl.hr
 split
 ·unfold Rpl.tk
  split
  ·exact Rpl.tkB_blocks _ _
  ·split
   ·exact .inl (Rpl.tkV_blocks _ _)
   ·split
    ·exact .inl ((Rpl.tkN_blocks _ _).trans (Rpl.tkP_keeps _ _).1)
    ·exact .inl rfl
 ·exact .inl rfl
theorem bT_snoc (xs : List Blk) (b : Blk) : bT (xs ++ [b]) = bT xs + b.mw := by simp [bT, tot]
theorem Blk.mw_le (b : Blk) : b.mw <= 5 + b.sz := by
 have : b.sz = b.proof.bys.length + b.proof.tags.length + szL ByteArray.size b.moves := rfl
 simp only [szL] at this
 unfold Blk.mw
 omega
theorem Rpl.hear_k5 {r : Rpl} {m : Msg} (h : r.sz + m.sz <= 1048576) (k : Int) : k <= (r.hear m).1.k5 k /\ (r.hear m).1.k5 k <= k + 16777216 := by
 have h2 : r.sz = r.high.sz + szL Blk.sz r.blocks + r.votes.length + r.news.length + r.done.length := rfl
 have h3 : m.sz = m.block.sz + m.proof.sz := rfl
 unfold Rpl.hear
 by_cases hok : r.ok = true
 ·rw [if_pos hok]
  have hw := (Rpl.wf_of hok (by omega) (by omega)).hr m
  have b1 : bT (r.hr m).1.blocks <= 6291456 + 1048581 := by
   have g1 := bT_le r.blocks
   have g2 := m.block.mw_le
   simp only [szL] at h2
   rcases Rpl.hr_blocks r m with e | e
   ·rw [e]; omega
   ·rw [e, bT_snoc]; omega
  have h4 : (r.hr m).1.high.mw = (r.hr m).1.high.sz := rfl
  have := hw.dl
  have := hw.vl
  have := hw.nl
  have := hw.hs
  unfold Rpl.k5 Rpl.k4 Rpl.k3 Rpl.k2 Rpl.k1
  omega
 ·rw [if_neg hok]
  have e : (default : Rpl).k5 k = k := by
   show k + ((default : Rpl).high.mw : Int) + (bT [] : Int) + ((([] : List Vot).length * 4 : Nat) : Int) + ((([] : List Nws).length * 2 : Nat) : Int) + ((([] : List Int).length : Nat) : Int) = k
   have e1 : (default : Rpl).high.mw = 0 := rfl
   have e2 : bT [] = 0 := rfl
   rw [e1, e2]
   simp
  show k <= (default : Rpl).k5 k /\ (default : Rpl).k5 k <= k + 16777216
  rw [e]
  omega
theorem Rpl.hear_mT (r : Rpl) (m : Msg) : mT (r.hear m).2 <= 15 := by
 have h0 : mT [] <= 15 := by decide
 have h1 : ∀ (v : Vot) (a b : Int), mT [⟨2, a, b, 0, zBlk, v, zPrf⟩] <= 15 := fun v a b => by simp [mT, tot, Msg.mw, zBlk, zPrf]
 unfold Rpl.hear
 split
 ·unfold Rpl.hr
  split
  ·unfold Rpl.tk
   split
   ·unfold Rpl.tkB
    split
    ·split
     ·exact h0
     ·split
      ·exact h0
      ·exact h1 _ _ _
    ·exact h0
   ·split
    ·exact h0
    ·split
     ·exact h0
     ·exact h0
  ·exact h0
 ·exact h0
end Go.VS
