/- VS: functions by the machine. -/
import Derived.Test.YtejhoajebbigbaaGreatDoorVk
import Derived.Test.YtejhoajebbigbaaGreatDoorVl
import Derived.Test.YtejhoajebbigbaaGreatDoorVg
import Derived.Test.YtejhoajebbigbaaGreatDoorVf
set_option linter.unusedSimpArgs false
set_option linter.unusedVariables false
open Go.Proofs
set_option maxRecDepth 20000
namespace Go.VS
theorem f145_at : gz.P.funcs[145]? = some Tryz.f145 := by
 have h : Tryz.prog.funcs[145]? = some Tryz.f145 := by kernel_rfl
 exact h
theorem f126_at : gz.P.funcs[126]? = some Tryz.f126 := by
 have h : Tryz.prog.funcs[126]? = some Tryz.f126 := by kernel_rfl
 exact h
def unlikeV (v x : Vot) : Bool := !likeV v x
theorem keep_unlike (v : Vot) : keepB (unlikeV v) = likeV v := by
 funext x
 simp [keepB, unlikeV]
theorem ok145 (x v : Vot) : VCalls gz 145 [x.enc, .ptr false v.enc] none (fun y _ => y = .lit (.bool (unlikeV v x))) := by
 refine VCalls.go (nt := 16) (keep := [0, 1, 2, 3]) (muts := []) (mvs := []) [] f145_at rfl (by kernel_rfl) rfl (by kernel_rfl) rfl (fun i h => by cases h) rfl ?_
 intro hok
 simp only [go_sem] at hok
 simp only [Tryz.f145, Func.code, Option.getD_some]
 simp only [go_sem]
 unfold unlikeV likeV
 by_cases h1 : x.view = v.view
 ·by_cases h2 : x.name = v.name
  ·simp only [go_sem, eq_true h1, eq_true h2]
   try trivial
  ·simp only [go_sem, eq_true h1, h2]
   try trivial
 ·simp only [go_sem, h1]
  try trivial
theorem Rpl.tkV_no {r : Rpl} {v : Vot} (h : ¬ (v.ok r.n = true /\ (v.view + 1).tmod r.n = r.id /\ 0 <= idxOf (fndP v.name v.view) r.blocks /\ r.votes.length < 60 /\ ¬ v ∈ r.votes)) : r.tkV v = r := if_neg h
theorem Rpl.tkV_yes {r : Rpl} {v : Vot} (h : v.ok r.n = true /\ (v.view + 1).tmod r.n = r.id /\ 0 <= idxOf (fndP v.name v.view) r.blocks /\ r.votes.length < 60 /\ ¬ v ∈ r.votes) : r.tkV v =
  match gth r.n v.view v.name ((r.votes ++ [v]).filter (likeV v)) with
  | some p => ({ r with votes := r.votes ++ [v] } : Rpl).tkP p
  | none => { r with votes := r.votes ++ [v] } := if_pos h
theorem like_self (v : Vot) : likeV v v = true := by simp [likeV]
theorem like_first (v : Vot) (l : List Vot) : (((l ++ [v]).filter (likeV v)).getD 0 default).view = v.view /\ (((l ++ [v]).filter (likeV v)).getD 0 default).name = v.name /\ (l ++ [v]).filter (likeV v) ≠ [] := by
 have hm : v ∈ (l ++ [v]).filter (likeV v) := List.mem_filter.2 ⟨by simp, like_self v⟩
 have hn : (l ++ [v]).filter (likeV v) ≠ [] := List.ne_nil_of_mem hm
 have h0 : 0 < ((l ++ [v]).filter (likeV v)).length := List.length_pos_iff.2 hn
 have h1 := (List.mem_filter.1 (getD_mem (xs := (l ++ [v]).filter (likeV v)) h0)).2
 simp only [likeV, Bool.and_eq_true, decide_eq_true_eq] at h1
 exact ⟨h1.1, h1.2, hn⟩
set_option maxHeartbeats 2000000 in
theorem ok126 (r : Rpl) (out : List Msg) (hw : r.wf) (v : Vot) : VCalls gz 126 [.ptr true ((r.wk out).enc true), v.enc] (some 0) (fun y x' => y = .tup [] /\ x' = ((r.tkV v).wk out).enc true) := by
 obtain ⟨T, hT⟩ : ∃ T, T = r.tkV v := ⟨_, rfl⟩
 rw [<- hT]
 have hvl := hw.vl
 have hn := srv_rng hw.sv
 have hn0 : ¬ r.n = 0 := by omega
 refine VCalls.go (nt := 93) (keep := [0, 1, 3, 4, 5, 6, 58, 76, 89]) (muts := [0]) (mvs := [4]) [(1, .tree true (.take 0 (.take 1 (.take 2 (.take 3 (.take 4 (.take 5 (.take 6 (.take 7 (.take 8 (.take 9 (.take 10 (.take 11 (.take 12 (.take 13 (.all (.cons 14 (.take 15 (.take 16 (.take 17 (.take 18 (.take 19 (.take 20 (.take 21 (.take 22 (.all (.cons 23 (.take 24 (.take 25 (.take 26 (.take 27 (.take 28 (.take 29 (.take 30 (.take 31 (.take 32 (.take 33 (.take 34 (.take 35 (.take 36 (.take 37 (.take 38 (.take 39 (.take 40 (.take 41 (.take 42 (.take 43 (.take 44 (.take 45 (.take 46 (.take 47 (.take 48 (.take 49 (.all (.cons 50 (.take 51 .done) .nil)))))))))))))))))))))))))))) .nil)))))))))) .nil))))))))))))))))), (2, .tree false (.take 0 (.take 1 (.take 2 (.take 3 (.take 4 (.all (.cons 5 (.all (.cons 6 (.all (.cons 7 (.all (.cons 8 (.take 9 (.take 10 (.take 11 (.all (.cons 12 .done .nil))))) .nil)) .nil)) .nil)) (.cons 6 (.all (.cons 5 (.all (.cons 7 (.all (.cons 8 (.take 9 (.take 10 (.take 11 (.all (.cons 12 .done .nil))))) .nil)) .nil)) (.cons 7 (.all (.cons 5 (.all (.cons 8 (.take 9 (.take 10 (.take 11 (.all (.cons 12 .done .nil))))) .nil)) .nil)) .nil))) .nil)))))))))] f126_at rfl (by kernel_rfl) rfl (by kernel_rfl) rfl (fun i h => by cases h; exact ⟨rfl, by simp⟩) rfl ?_
 intro hok
 simp only [go_sem] at hok
 simp only [Tryz.f126, Func.code, Option.getD_some]
 simp only [go_sem]
 intro _
 by_cases c1 : (r.votes.length : Int) = 60
 ·rw [Rpl.tkV_no (fun h => by omega)] at hT
  subst hT
  simp only [go_sem, eq_true c1]
  try trivial
 simp only [go_sem, c1]
 refine call_lend ?_
 simp only [go_sem]
 refine callN.eq (ok86 v r.n) (by simp only [go_sem]) ?_
 simp only [go_sem]
 cases c2 : v.ok r.n
 ·rw [Rpl.tkV_no (fun h => by rw [c2] at h; exact absurd h.1 (by decide))] at hT
  subst hT
  simp only [go_sem]
  try trivial
 have hv := (Vot.ok_of c2).2.2.1
 simp only [go_sem]
 refine call_lend ?_
 simp only [go_sem]
 refine callN.eq (ok82 (r.wk out) (Rpl.wk_len r out) v.name v.view) (by simp only [go_sem]) ?_
 simp only [go_sem]
 have e : (r.wk out).has v.name v.view = idxOf (fndP v.name v.view) r.blocks := by rw [Rpl.wk_has, hw.has_eq]
 rw [e]
 by_cases c3 : idxOf (fndP v.name v.view) r.blocks < 0
 ·rw [Rpl.tkV_no (fun h => by omega)] at hT
  subst hT
  simp only [go_sem, eq_true c3]
  try trivial
 have w1 : IntKind.i64.wrap (v.view + 1) = v.view + 1 := wrap64 (by omega) (by omega)
 simp only [go_sem, c3, hn0, w1]
 by_cases c4 : (v.view + 1).tmod r.n = r.id
 rotate_left
 ·rw [Rpl.tkV_no (fun h => c4 h.2.1)] at hT
  subst hT
  simp only [go_sem, c4]
  try trivial
 simp only [go_sem, eq_true c4]
 refine call_lend ?_
 simp only [go_sem]
 refine callN.eq (ok143 r.votes v) (by simp only [go_sem]) ?_
 simp only [go_sem]
 by_cases c5 : v ∈ r.votes
 ·rw [Rpl.tkV_no (fun h => h.2.2.2.2 c5)] at hT
  subst hT
  simp only [go_sem, eq_true c5]
  try trivial
 rw [Rpl.tkV_yes ⟨c2, c4, by omega, by omega, c5⟩] at hT
 obtain ⟨f1, f2, f3⟩ := like_first v r.votes
 simp only [go_sem, c5]
 refine ⟨⟨by omega, by omega⟩, ?_⟩
 obtain ⟨W, hW⟩ : ∃ W, W = r.votes ++ [v] := ⟨_, rfl⟩
 have hWl : r.votes.length + 1 = W.length := by rw [hW, List.length_append, List.length_cons, List.length_nil]
 have hWm : List.map Vot.enc r.votes ++ [AVal.agg [.lit (.int .i64 v.view), .lit (.int .i64 v.name), .lit (.int .i64 v.bY), .lit (.int .i64 v.tag)]] = List.map Vot.enc W := by
  rw [hW, List.map_append]
  rfl
 have hw1 : ({ r with votes := W } : Rpl).wf := ⟨hw.sv, hw.bl, hw.bk, hw.ap, hw.kn, hw.dl, by show W.length <= 60; omega, hw.nl, hw.hs⟩
 rw [<- hW] at f1 f2 f3 hT
 rw [hWl, hWm]
 refine call_lend ?_
 simp only [go_sem]
 refine callN.eq (ok120 W (by omega)) (by simp only [go_sem]) ?_
 simp only [go_sem]
 have hD := ok144 W 145 [.ptr false v.enc] (unlikeV v) rfl rfl (by rw [keep_unlike]; exact f3) (fun x => ok145 x v)
 rw [keep_unlike] at hD
 refine call_tk true 0 76 (sz := 4) (xs := (W.map Vot.enc)) rfl rfl rfl (by simp only [go_sem]) (by simp only [go_sem, List.getElem?_cons_zero, List.getElem?_cons_succ, List.length_map]) ?_
 simp only [go_sem, List.set]
 refine callD.eq (hD) (by simp only [go_sem]) ?_
 simp only [go_sem]
 have hG := ok146 (W.filter (likeV v)) r.n
 rw [f1, f2] at hG
 cases hg : gth r.n v.view v.name (W.filter (likeV v)) with
 | none =>
  rw [hg] at hT hG
  have e2 : gthA none = .tup [zPrf.enc true, .lit (.bool false)] := rfl
  rw [e2] at hG
  refine call_lend ?_
  simp only [go_sem]
  refine callN.eq (hG) (by simp only [go_sem]) ?_
  simp only [go_sem]
  subst hT
  try trivial
 | some p =>
  rw [hg] at hT hG
  have e2 : gthA (some p) = .tup [p.enc true, .lit (.bool true)] := rfl
  rw [e2] at hG
  refine call_lend ?_
  simp only [go_sem]
  refine callN.eq (hG) (by simp only [go_sem]) ?_
  simp only [go_sem]
  refine call_mutL true 0 ⟨0,[]⟩ rfl rfl (by simp only [go_sem]; rfl) (by simp only [go_sem]) ?_
  simp only [go_sem, List.set]
  refine callM2.eq (ok127 { r with votes := W } out hw1 p) (by simp only [go_sem]) ?_
  simp only [go_sem]
  simp only at hT
  subst hT
  simp only [and_self]
end Go.VS
set_option linter.unusedSimpArgs false
set_option linter.unusedVariables false
open Go.Proofs
set_option maxRecDepth 20000
namespace Go.VS
instance : Inhabited Rpl := ⟨⟨0, 0, 0, 0, 0, 0, default, [], [], [], []⟩⟩
structure Clu where
 reps : List Rpl
 net : List Msg
instance : DecidableEq Clu := fun a b => by
 cases a; cases b; simp only [Clu.mk.injEq]; infer_instance
def Clu.enc (own : Bool) (c : Clu) : AVal := .agg [.lst own 14 (c.reps.map (Rpl.enc own)), .lst own 20 (c.net.map (Msg.enc own))]
theorem Clu.enc_eq {own : Bool} {c : Clu} : Clu.enc own c = .agg [.lst own 14 (c.reps.map (Rpl.enc own)), .lst own 20 (c.net.map (Msg.enc own))] := nr rfl
attribute [go_sem] Clu.enc_eq
theorem rplNoRefs {own : Bool} {xs : List Rpl} : noRefs (xs.map (Rpl.enc own)) = true := noRefs_map fun x => by simp only [go_sem]
theorem rplClosed {xs : List Rpl} : closedAs (xs.map (Rpl.enc true)) = true := closedAs_map fun x => by simp only [go_sem]
theorem rplFlat {xs : List Rpl} : flatAs (xs.map (Rpl.enc false)) = true := flatAs_map fun x => by simp only [go_sem]
theorem rplShds {own : Bool} {xs : List Rpl} : toShds (xs.map (Rpl.enc own)) = xs.map (Rpl.enc false) := toShds_mapTo fun x => by cases own <;> simp only [go_sem]
attribute [go_sem] rplNoRefs rplClosed rplFlat rplShds
end Go.VS
set_option linter.unusedSimpArgs false
set_option linter.unusedVariables false
open Go.Proofs
set_option maxRecDepth 20000
namespace Go.VS
theorem f5_at : gz.P.funcs[5]? = some Tryz.f5 := by
 have h : Tryz.prog.funcs[5]? = some Tryz.f5 := by kernel_rfl
 exact h
def Msg.sz (m : Msg) : Nat := m.block.sz + m.proof.sz
theorem ok5 (m : Msg) (left : Int) (hl : room left) : VCalls gz 5 [m.enc false, .lit (.int .i64 left)] none (fun y _ => y = .lit (.int .i64 (szR m.sz left))) := by
 obtain ⟨hl1, hl2⟩ := hl
 have hz : m.sz = m.block.sz + m.proof.sz := rfl
 refine VCalls.go (nt := 18) (keep := [0, 1, 2, 4, 10, 16]) (muts := []) (mvs := []) [] f5_at rfl (by kernel_rfl) rfl (by kernel_rfl) rfl (fun i h => by cases h) rfl ?_
 intro hok
 simp only [go_sem] at hok
 simp only [Tryz.f5, Func.code, Option.getD_some]
 simp only [go_sem]
 obtain ⟨A1, g1⟩ : ∃ A, A = m.block.sz := ⟨_, rfl⟩
 refine call_lend ?_
 simp only [go_sem]
 refine callN.eq (ok23 m.block left ⟨hl1, hl2⟩) (by simp only [go_sem]) ?_
 simp only [go_sem]
 rw [<- g1]
 by_cases h1 : (A1 : Int) <= left
 rotate_left
 ·rw [show szR A1 left = -1 from szR_lt (by omega)]
  simp only [go_sem]
  rw [szR_lt (by omega)]
 rw [show szR A1 left = left - (A1 : Int) from szR_le h1]
 have n1 : ¬ (left - (A1 : Int) < 0) := by omega
 simp only [n1, decide_false]
 simp only [go_sem]
 refine call_lend ?_
 simp only [go_sem]
 refine callN.eq (ok18 m.proof _ ⟨by omega, by omega⟩) (by simp only [go_sem]) ?_
 simp only [go_sem]
 obtain ⟨A2, g2⟩ : ∃ A, A = A1 + m.proof.sz := ⟨_, rfl⟩
 rw [szR_add h1, <- g2]
 by_cases h2 : (A2 : Int) <= left
 rotate_left
 ·rw [show szR A2 left = -1 from szR_lt (by omega)]
  simp only [go_sem]
  rw [szR_lt (by omega)]
 rw [show szR A2 left = left - (A2 : Int) from szR_le h2]
 have n2 : ¬ (left - (A2 : Int) < 0) := by omega
 simp only [n2, decide_false]
 simp only [go_sem]
 rw [szR_le (by omega)]
 simp only [show m.sz = A2 by omega]
def Clu.sz (c : Clu) : Nat := szL Rpl.sz c.reps + szL Msg.sz c.net
end Go.VS
