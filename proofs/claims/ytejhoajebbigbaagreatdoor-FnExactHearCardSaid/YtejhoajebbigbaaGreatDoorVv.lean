/- VS: functions by the machine. -/
import Derived.Test.YtejhoajebbigbaaGreatDoorVp
import Derived.Test.YtejhoajebbigbaaGreatDoorVu
import Derived.Test.YtejhoajebbigbaaGreatDoorVs
set_option linter.unusedSimpArgs false
set_option linter.unusedVariables false
open Go.Proofs
set_option maxRecDepth 20000
namespace Go.VS
theorem f71_at : gz.P.funcs[71]? = some Tryz.f71 := by
 have h : Tryz.prog.funcs[71]? = some Tryz.f71 := by kernel_rfl
 exact h
theorem gth_perm {n view name : Int} {l m : List Vot} (h : ∀ v, v ∈ l ↔ v ∈ m) : gth n view name l = gth n view name m := by
 have ha : ∀ p : Vot -> Bool, l.any p = m.any p := fun p => by
  rw [Bool.eq_iff_iff, List.any_eq_true, List.any_eq_true]
  exact ⟨fun ⟨x, hx, hp⟩ => ⟨x, (h x).1 hx, hp⟩, fun ⟨x, hx, hp⟩ => ⟨x, (h x).2 hx, hp⟩⟩
 have hL : gthL n view name l = gthL n view name m := by
  unfold gthL
  simp only [ha]
 unfold gth
 rw [hL]
set_option maxHeartbeats 2000000 in
theorem ok71 (r : Rpl) (hw : r.wf) (v : Vot) : VCalls gz 71 [.ptr true (r.enc true), v.enc] (some 0) (fun y x' => y = .tup [] /\ x' = (r.tkV v).enc true) := by
 obtain ⟨T, hT⟩ : ∃ T, T = r.tkV v := ⟨_, rfl⟩
 rw [<- hT]
 have hvl := hw.vl
 have hn := srv_rng hw.sv
 have hn0 : ¬ r.n = 0 := by omega
 refine VCalls.go (nt := 127) (keep := [0, 1, 3, 4, 5, 6, 7, 49, 58, 69, 93, 123]) (muts := [0]) (mvs := [10]) [(1, .tree true (.take 0 (.take 1 (.take 2 (.take 3 (.take 4 (.all (.cons 5 (.take 6 (.take 7 (.take 8 (.take 9 (.take 10 (.take 11 (.take 12 (.take 13 (.take 14 (.take 15 (.take 16 (.take 17 (.take 18 (.take 19 (.take 20 (.take 21 (.take 22 (.take 23 (.take 24 (.take 25 (.take 26 (.take 27 (.take 28 (.take 29 (.take 30 (.all (.cons 31 (.take 32 (.take 33 (.take 34 (.take 35 (.take 36 (.take 37 (.take 38 (.take 39 (.take 40 (.take 41 .done)))))))))) .nil))))))))))))))))))))))))))) .nil)))))))), (6, .chain true [0, 1, 2, 3, 4, 5, 6, 7, 8]), (7, .chain true [0, 1, 2, 3, 4, 5, 6, 7, 8, 9, 10, 11, 12, 13, 14, 15, 16, 17, 18, 19, 20, 21, 22, 23]), (9, .tree false (.take 0 (.take 1 (.take 2 (.take 3 (.all (.cons 4 (.all (.cons 5 (.all (.cons 6 (.all (.cons 7 (.take 8 (.take 9 (.all (.cons 10 .done .nil)))) .nil)) .nil)) .nil)) (.cons 5 (.all (.cons 4 (.all (.cons 6 (.all (.cons 7 (.take 8 (.take 9 (.all (.cons 10 .done .nil)))) .nil)) .nil)) (.cons 6 (.all (.cons 4 (.all (.cons 7 (.take 8 (.take 9 (.all (.cons 10 .done .nil)))) .nil)) .nil)) .nil))) .nil))))))))] f71_at rfl (by kernel_rfl) rfl (by kernel_rfl) rfl (fun i h => by cases h; exact ⟨rfl, by simp⟩) rfl ?_
 intro hok
 simp only [go_sem] at hok
 simp only [Tryz.f71, Func.code, Option.getD_some]
 simp only [go_sem]
 refine call_lend ?_
 simp only [go_sem]
 refine callN.eq (ok66 v r.n) (by simp only [go_sem]) ?_
 simp only [go_sem]
 cases c2 : v.ok r.n
 ·rw [Rpl.tkV_no (fun h => by rw [c2] at h; exact absurd h.1 (by decide))] at hT
  subst hT
  simp only [go_sem]
  try trivial
 have hv := (Vot.ok_of c2).2.2.1
 have w1 : IntKind.i64.wrap (v.view + 1) = v.view + 1 := wrap64 (by omega) (by omega)
 simp only [go_sem, hn0, w1]
 by_cases c4 : (v.view + 1).tmod r.n = r.id
 rotate_left
 ·rw [Rpl.tkV_no (fun h => c4 h.2.1)] at hT
  subst hT
  simp only [go_sem, c4]
  try trivial
 simp only [go_sem, eq_true c4]
 refine call_lend ?_
 simp only [go_sem]
 refine callN.eq (ok99 r.blocks v.name v.view) (by simp only [go_sem]) ?_
 simp only [go_sem]
 by_cases c3 : idxOf (fndP v.name v.view) r.blocks < 0
 ·rw [Rpl.tkV_no (fun h => by omega)] at hT
  subst hT
  simp only [go_sem, eq_true c3]
  try trivial
 simp only [go_sem, c3]
 intro _
 by_cases c1 : (60 : Int) <= (r.votes.length : Int)
 ·rw [Rpl.tkV_no (fun h => by omega)] at hT
  subst hT
  simp only [go_sem, eq_true c1]
  try trivial
 simp only [go_sem, c1]
 have e0 : [AVal.agg [.lit (.int .i64 v.view), .lit (.int .i64 v.name), .lit (.int .i64 v.bY), .lit (.int .i64 v.tag)]] = List.map Vot.enc [v] := rfl
 refine vm_loopK (α := Nat) (fun i => [(0, .ptr true (r.enc true)), (3, .ptr true v.enc), (4, .lst true 4 ((v :: (r.votes.take i).filter (likeV v)).map Vot.enc)), (5, .lit (.int .i64 i))]) (fun i => i <= r.votes.length /\ ∀ j, j < i -> ¬ r.votes.getD j default = v) (fun i => r.votes.length - i) 0 ?_ ⟨by omega, fun j hj => by omega⟩ (by kernel_rfl) (fun _ => rfl) ?_
 ·simp only [go_sem, List.take_zero, List.filter_nil, List.map_cons, List.map_nil]
  try trivial
 ·rintro i ⟨hi, he⟩ hk
  have hfl : ((r.votes.take i).filter (likeV v)).length <= i := Nat.le_trans (List.length_filter_le _ _) (by rw [List.length_take]; omega)
  obtain ⟨S, hS⟩ : ∃ S, S = v :: (r.votes.take i).filter (likeV v) := ⟨_, rfl⟩
  rw [<- hS]
  have hSl : S.length <= i + 1 := by rw [hS, List.length_cons]; omega
  simp only [go_sem]
  intro _
  first | refine branch_ndec (fun h6 => ?_) (fun h6 => ?_) | refine branch_dec (fun h6 => ?_) (fun h6 => ?_) | refine branch_nbool (fun h6 => ?_) (fun h6 => ?_) | refine branch_split (fun h6 => ?_) (fun h6 => ?_)
  rotate_left
  ·have hie : i = r.votes.length := by omega
   rw [hie, List.take_length] at hS
   have c5 := mem_none (x := v) (fun j hj => he j (by omega))
   rw [Rpl.tkV_yes ⟨c2, c4, by omega, by omega, c5⟩] at hT
   obtain ⟨W, hW⟩ : ∃ W, W = r.votes ++ [v] := ⟨_, rfl⟩
   have hWl : r.votes.length + 1 = W.length := by rw [hW, List.length_append, List.length_cons, List.length_nil]
   have hWm : List.map Vot.enc r.votes ++ [AVal.agg [.lit (.int .i64 v.view), .lit (.int .i64 v.name), .lit (.int .i64 v.bY), .lit (.int .i64 v.tag)]] = List.map Vot.enc W := by
    rw [hW, List.map_append]
    rfl
   have hw1 : ({ r with votes := W } : Rpl).wf := ⟨hw.sv, hw.bl, hw.bk, hw.ap, hw.kn, hw.dl, by show W.length <= 60; omega, hw.nl, hw.hs⟩
   have hp : gth r.n v.view v.name (W.filter (likeV v)) = gth r.n v.view v.name S := gth_perm fun x => by
    rw [hW, hS, List.filter_append, List.mem_append, List.mem_cons]
    simp only [List.filter_cons, like_self, if_true, List.filter_nil, List.mem_singleton]
    exact ⟨fun h => h.symm, fun h => h.symm⟩
   rw [<- hW, hp] at hT
   have hG := ok105 S r.n
   have f1 : (S.getD 0 default).view = v.view := by rw [hS]; rfl
   have f2 : (S.getD 0 default).name = v.name := by rw [hS]; rfl
   rw [f1, f2] at hG
   simp only [go_sem]
   refine ⟨⟨by omega, by omega⟩, ?_⟩
   rw [hWm]
   cases hg : gth r.n v.view v.name S with
   | none =>
    rw [hg] at hT hG
    have e2 : gthA none = .tup [zPrf.enc true, .lit (.bool false)] := rfl
    rw [e2] at hG
    refine call_lend ?_
    simp only [go_sem]
    refine callN.eq (hG) (by simp only [go_sem]) ?_
    simp only [go_sem]
    subst hT
    try trivial
   | some p =>
    rw [hg] at hT hG
    have e2 : gthA (some p) = .tup [p.enc true, .lit (.bool true)] := rfl
    rw [e2] at hG
    refine call_lend ?_
    simp only [go_sem]
    refine callN.eq (hG) (by simp only [go_sem]) ?_
    simp only [go_sem]
    refine call_mutL true 0 ⟨0,[]⟩ rfl rfl (by simp only [go_sem]; rfl) (by simp only [go_sem]) ?_
    simp only [go_sem, List.set]
    refine callM2.eq (ok72 { r with votes := W } hw1 p) (by simp only [go_sem]) ?_
    simp only [go_sem]
    simp only at hT
    subst hT
    simp only [and_self]
  have hlt : i < r.votes.length := by omega
  have h0 : (0 : Int) <= (i : Int) := by omega
  have hw3 : IntKind.i64.wrap ((i : Int) + 1) = ((i + 1 : Nat) : Int) := by rw [wrap64 (by omega) (by omega)]; omega
  simp only [go_sem, h0, hlt, h6, Vot.eqB_eq]
  by_cases h7 : r.votes.getD i default = v
  ·have hm : v ∈ r.votes := h7 ▸ getD_mem hlt
   have e7 : eqB (r.votes.getD i default) v = true := decide_eq_true h7
   rw [Rpl.tkV_no (fun h => h.2.2.2.2 hm)] at hT
   simp only [go_sem, e7]
   subst hT
   try trivial
  have e7 : eqB (r.votes.getD i default) v = false := decide_eq_false h7
  have hsn : S ++ (if likeV v (r.votes.getD i default) = true then [r.votes.getD i default] else []) = v :: (r.votes.take (i + 1)).filter (likeV v) := by
   rw [take_succ_getD hlt, filter_snoc, hS, List.cons_append]
  by_cases g : likeV v (r.votes.getD i default) = true
  ·rw [if_pos g] at hsn
   have hsm : List.map Vot.enc S ++ [AVal.agg [.lit (.int .i64 (r.votes.getD i default).view), .lit (.int .i64 (r.votes.getD i default).name), .lit (.int .i64 (r.votes.getD i default).bY), .lit (.int .i64 (r.votes.getD i default).tag)]] = List.map Vot.enc (v :: (r.votes.take (i + 1)).filter (likeV v)) := by
    rw [<- hsn, List.map_append]
    rfl
   have g' := g
   simp only [likeV, Bool.and_eq_true, decide_eq_true_eq] at g'
   simp only [go_sem, e7, eq_true g'.1, eq_true g'.2, h0, h6, hlt]
   refine ⟨⟨by omega, by omega⟩, again_intro (i + 1) ⟨by omega, nxH he h7⟩ (by omega) ?_⟩
   simp only [go_sem, hsm, hw3]
   try trivial
  ·rw [if_neg g, List.append_nil] at hsn
   have hsm : List.map Vot.enc S = List.map Vot.enc (v :: (r.votes.take (i + 1)).filter (likeV v)) := by rw [hsn]
   by_cases g1 : (r.votes.getD i default).view = v.view
   ·have g2 : ¬ (r.votes.getD i default).name = v.name := fun h => g (by simp only [likeV, Bool.and_eq_true, decide_eq_true_eq]; exact ⟨g1, h⟩)
    simp only [go_sem, e7, eq_true g1, g2, h0, h6, hlt, hw3]
    refine again_intro (i + 1) ⟨by omega, nxH he h7⟩ (by omega) ?_
    simp only [go_sem, hsm]
    try trivial
   ·simp only [go_sem, e7, g1, h0, h6, hlt, hw3]
    refine again_intro (i + 1) ⟨by omega, nxH he h7⟩ (by omega) ?_
    simp only [go_sem, hsm]
    try trivial
end Go.VS
