/- VS: functions by the machine. -/
import Derived.Test.YtejhoajebbigbaaGreatDoorVk
set_option linter.unusedSimpArgs false
set_option linter.unusedVariables false
open Go.Proofs
set_option maxRecDepth 20000
namespace Go.VS
theorem f127_at : gz.P.funcs[127]? = some Tryz.f127 := by
 have h : Tryz.prog.funcs[127]? = some Tryz.f127 := by kernel_rfl
 exact h
theorem f72_at : gz.P.funcs[72]? = some Tryz.f72 := by
 have h : Tryz.prog.funcs[72]? = some Tryz.f72 := by kernel_rfl
 exact h
theorem Rpl.wk_r {r : Rpl} {out : List Msg} : (r.wk out).r = r := nr rfl
theorem Rpl.wk_n {r : Rpl} {out : List Msg} : (r.wk out).names = r.blocks.map Blk.nmI := nr rfl
theorem Rpl.wk_o {r : Rpl} {out : List Msg} : (r.wk out).out = out := nr rfl
attribute [go_sem] Rpl.wk_r Rpl.wk_n Rpl.wk_o
theorem Rpl.wf.findUp {r : Rpl} (hw : r.wf) (out : List Msg) {i : Nat} (hi : i < r.blocks.length) : VCalls gz 110 [.ptr false ((r.wk out).enc false), .lit (.int .i64 (r.blocks.getD i default).parent)] none (fun y _ => y = .lit (.int .i64 (r.up i))) := by
 have h := ok110 (r.wk out) (r.blocks.getD i default).parent
 rwa [show idxOf (isI (r.blocks.getD i default).parent) (r.wk out).names = r.up i from hw.wk_up out hi] at h
set_option maxHeartbeats 1000000 in
theorem ok147 (r : Rpl) (out : List Msg) (hw : r.wf) (i : Nat) (hi : i < r.blocks.length) : VCalls gz 147 [.ptr true ((r.wk out).enc true), .lit (.int .i64 (i : Int))] (some 0) (fun y x' => y = .tup [] /\ x' = ((r.agr i).wk out).enc true) := by
 have h0 : (0 : Int) <= (i : Int) := by omega
 have hi2 : (i : Int) < (r.blocks.length : Int) := by omega
 have hv := hw.bk_view hi
 have hu := hw.up_rng hi
 refine VCalls.go (nt := 98) (keep := [0, 1, 4, 5, 6, 7, 36, 64, 92]) (muts := [0]) (mvs := [7]) [(2, .chain true [0, 1, 2, 3, 4, 5, 6, 7, 8, 9, 10, 11, 12, 13, 14, 15, 16]), (4, .chain true [0, 1, 2, 3, 4, 5, 6, 7, 8, 9, 10, 11, 12, 13, 14, 15, 16]), (6, .tree true (.take 0 (.take 1 (.take 2 (.take 3 (.take 4 (.take 5 (.take 6 (.take 7 (.take 8 (.take 9 (.take 10 (.take 11 (.take 12 (.take 13 (.take 14 (.take 15 (.take 16 (.take 18 (.take 19 (.take 20 (.take 21 (.take 22 (.all (.cons 17 (.all (.cons 23 (.take 24 .done) .nil)) .nil)))))))))))))))))))))))))] f147_at rfl (by kernel_rfl) rfl (by kernel_rfl) rfl (fun i h => by cases h; exact ⟨rfl, by simp⟩) rfl ?_
 intro hok
 simp only [go_sem] at hok
 simp only [Tryz.f147, Func.code, Option.getD_some]
 simp only [go_sem]
 simp only [go_sem, h0, hi, hi2]
 refine call_lend ?_
 simp only [go_sem]
 refine callN.eq (hw.findUp out hi) (by simp only [go_sem]) ?_
 simp only [go_sem]
 by_cases c1 : r.up i < 0
 ·rw [Rpl.agr1 c1]
  simp only [go_sem, eq_true c1]
  try trivial
 obtain ⟨c, hc⟩ := Int.eq_ofNat_of_zero_le (show 0 <= r.up i by omega)
 rw [hc] at hu c1 ⊢
 have hcl : c < r.blocks.length := by omega
 have hc2 : (c : Int) < (r.blocks.length : Int) := by omega
 have hc0 : (0 : Int) <= (c : Int) := by omega
 have w1 : IntKind.i64.wrap ((r.blocks.getD i default).view - 1) = (r.blocks.getD i default).view - 1 := wrap64 (by omega) (by omega)
 have w2 : IntKind.i64.wrap ((r.blocks.getD i default).view - 2) = (r.blocks.getD i default).view - 2 := wrap64 (by omega) (by omega)
 simp only [go_sem, c1, hc0, hc2, hcl, w1]
 by_cases c2 : (r.blocks.getD c default).view = (r.blocks.getD i default).view - 1
 rotate_left
 ·rw [Rpl.agr2 hc c2]
  simp only [go_sem, c2]
  try trivial
 simp only [go_sem, eq_true c2, hc0, hc2, hcl]
 have hu2 := hw.up_rng hcl
 refine call_lend ?_
 simp only [go_sem]
 refine callN.eq (hw.findUp out hcl) (by simp only [go_sem]) ?_
 simp only [go_sem]
 by_cases c3 : r.up c < 0
 ·rw [Rpl.agr3 hc c2 c3]
  simp only [go_sem, eq_true c3]
  try trivial
 obtain ⟨d, hd⟩ := Int.eq_ofNat_of_zero_le (show 0 <= r.up c by omega)
 rw [hd] at hu2 c3 ⊢
 have hdl : d < r.blocks.length := by omega
 have hd2 : (d : Int) < (r.blocks.length : Int) := by omega
 have hd0 : (0 : Int) <= (d : Int) := by omega
 simp only [go_sem, c3, hd0, hd2, hdl, w2]
 by_cases c4 : (r.blocks.getD d default).view = (r.blocks.getD i default).view - 2
 rotate_left
 ·rw [Rpl.agr4 hc c2 hd c4]
  simp only [go_sem, c4]
  try trivial
 simp only [go_sem, eq_true c4]
 have e5 := Rpl.agr5 hc c2 hd c4
 have hcl5 := Rpl.chF_len r 61 (d : Int)
 refine call_lend ?_
 simp only [go_sem]
 refine callN.eq (ok158 r out hw (d : Int) (by omega) hd2) (by simp only [go_sem]) ?_
 simp only [go_sem]
 obtain ⟨C, hC⟩ : ∃ C, C = r.chF 61 (d : Int) := ⟨_, rfl⟩
 rw [<- hC] at e5 hcl5 ⊢
 intro hl1 hl2
 by_cases c5 : r.done.length < C.length
 rotate_left
 ·have n5 : ¬ ((r.done.length : Int) < (C.length : Int)) := by omega
  rw [e5, if_neg (fun h => c5 h.1)]
  simp only [go_sem, n5]
  try trivial
 have n5 : (r.done.length : Int) < (C.length : Int) := by omega
 simp only [go_sem, n5]
 intro _
 have hle : r.done.length <= C.length := by omega
 refine ⟨by omega, by omega, fun hp => ?_, fun hp => ?_⟩
 ·refine call_lend ?_
  simp only [go_sem, Nat.sub_zero, List.drop_zero, hle]
  refine callN.eq (ok159 (C.take r.done.length) r.done) (by simp only [go_sem, Nat.sub_zero, List.drop_zero, hle]) ?_
  simp only [go_sem, Nat.sub_zero, List.drop_zero, hle]
  by_cases c6 : C.take r.done.length = r.done
  ·rw [e5, if_pos ⟨c5, c6⟩]
   simp only [go_sem, eq_true c6]
   try trivial
  ·rw [e5, if_neg (fun h => c6 h.2)]
   simp only [go_sem, c6]
   try trivial
 ·have hd0 : r.done = [] := List.eq_nil_of_length_eq_zero (by omega)
  have c6 : C.take r.done.length = r.done := by rw [hd0]; simp
  rw [e5, if_pos ⟨c5, c6⟩]
  refine call_lend ?_
  simp only [go_sem, hd0]
  refine callN.eq (ok159 [] []) (by simp only [go_sem, hd0]) ?_
  simp only [go_sem, hd0]
  try trivial
end Go.VS
set_option linter.unusedSimpArgs false
set_option linter.unusedVariables false
open Go.Proofs
set_option maxRecDepth 20000
namespace Go.VS
theorem Rpl.tkP_bad {r : Rpl} {x : Prf} (h : x.ok r.n = false) : r.tkP x = r := if_neg (by rw [h]; simp)
theorem Rpl.tkP_un {r : Rpl} {x : Prf} (h : knwB r.blocks x = false) : r.tkP x = r := if_neg (by rw [h]; simp)
def hiP (r : Rpl) (x : Prf) : Prf := if r.high.view < x.view then x else r.high
theorem Rpl.tkP_none {r : Rpl} {x : Prf} (h : x.ok r.n = true) (hk : knwB r.blocks x = true) (ha : r.at x < 0) : r.tkP x = { r with high := hiP r x, view := maxI r.view (minI (x.view + 1) 100000) } := by
 unfold Rpl.tkP
 rw [if_pos ⟨h, hk⟩, if_pos ha]
 rfl
theorem Rpl.tkP_some {r : Rpl} {x : Prf} {k : Nat} (h : x.ok r.n = true) (hk : knwB r.blocks x = true) (ha : r.at x = (k : Int)) : r.tkP x =
  ({ r with high := hiP r x, view := maxI r.view (minI (x.view + 1) 100000), locked := maxI r.locked (r.blocks.getD k default).proof.view } : Rpl).agr k := by
 unfold Rpl.tkP
 rw [if_pos ⟨h, hk⟩, if_neg (by omega), ha, Int.toNat_natCast]
 rfl
theorem Rpl.wf.tk1 {r : Rpl} (hw : r.wf) {x : Prf} (hx : x.ok r.n = true) (v l : Int) : ({ r with high := hiP r x, view := v, locked := l } : Rpl).wf := by
 have hz := Prf.ok_sz hx
 have hh : (hiP r x).sz <= 1048576 := by
  unfold hiP
  split
  ·omega
  ·exact hw.hs
 exact ⟨hw.sv, hw.bl, hw.bk, hw.ap, hw.kn, hw.dl, hw.vl, hw.nl, hh⟩
set_option maxHeartbeats 1000000 in
theorem ok127 (r : Rpl) (out : List Msg) (hw : r.wf) (x : Prf) : VCalls gz 127 [.ptr true ((r.wk out).enc true), x.enc false] (some 0) (fun y x' => y = .tup [] /\ x' = ((r.tkP x).wk out).enc true) := by
 obtain ⟨T, hT⟩ : ∃ T, T = r.tkP x := ⟨_, rfl⟩
 rw [<- hT]
 refine VCalls.go (nt := 78) (keep := [0, 1, 3, 4, 12, 15, 23, 32, 54]) (muts := [0]) (mvs := [7]) [(1, .tree true (.take 0 (.take 1 (.take 2 (.take 3 (.take 4 (.take 5 (.all (.cons 6 (.take 7 .done) .nil))))))))), (6, .chain true [0, 1, 2, 3, 4, 5, 6, 7, 8]), (8, .tree false (.take 0 (.take 1 (.take 2 (.take 3 (.take 4 (.take 6 (.all (.cons 5 (.all (.cons 7 (.take 8 (.take 9 (.take 10 (.take 11 (.take 12 (.take 13 (.all (.cons 14 .done .nil)))))))) .nil)) (.cons 7 (.take 8 (.take 9 (.all (.cons 5 (.take 10 (.take 11 (.take 12 (.take 13 (.all (.cons 14 .done .nil)))))) .nil)))) .nil)))))))))), (10, .tree false (.take 0 (.take 1 (.take 2 (.take 3 (.take 4 (.take 6 (.take 7 (.take 8 (.take 9 (.take 11 (.all (.cons 5 (.all (.cons 10 (.take 12 (.take 13 (.take 14 (.all (.cons 15 (.take 16 (.take 17 (.take 18 (.take 19 (.all (.cons 20 .done .nil)))))) .nil))))) .nil)) (.cons 10 (.take 12 (.take 13 (.take 14 (.all (.cons 5 (.all (.cons 15 (.take 16 (.take 17 (.take 18 (.take 19 (.all (.cons 20 .done .nil)))))) .nil)) (.cons 15 (.all (.cons 5 (.take 16 (.take 17 (.take 18 (.take 19 (.all (.cons 20 .done .nil)))))) .nil)) .nil)))))) .nil))))))))))))))] f127_at rfl (by kernel_rfl) rfl (by kernel_rfl) rfl (fun i h => by cases h; exact ⟨rfl, by simp⟩) rfl ?_
 intro hok
 simp only [go_sem] at hok
 simp only [Tryz.f127, Func.code, Option.getD_some]
 simp only [go_sem]
 refine call_lend ?_
 simp only [go_sem]
 refine callN.eq (ok79 x r.n) (by simp only [go_sem]) ?_
 simp only [go_sem]
 cases hx : x.ok r.n
 ·rw [Rpl.tkP_bad hx] at hT
  subst hT
  simp only [go_sem]
  try trivial
 have hv := Prf.ok_view hx
 have hz := Prf.ok_sz hx
 simp only [go_sem]
 refine call_lend ?_
 simp only [go_sem]
 refine callN.eq (ok81 x) (by simp only [go_sem]) ?_
 simp only [go_sem]
 cases ho : x.one
 ·have hkn := knwB_not (l := r.blocks) ho
  have hat := Rpl.at_not (r := r) ho
  have hr := idxOf_rng (fndP x.name x.view) r.blocks
  simp only [go_sem]
  refine call_lend ?_
  simp only [go_sem]
  refine callN.eq (ok82 (r.wk out) (Rpl.wk_len r out) x.name x.view) (by simp only [go_sem]) ?_
  simp only [go_sem]
  have e : (r.wk out).has x.name x.view = r.at x := by rw [Rpl.wk_has, hw.has_eq, hat]
  rw [e]
  rw [<- hat] at hkn hr
  by_cases c : r.at x < 0
  ·have hk : knwB r.blocks x = false := by
    cases h : knwB r.blocks x
    ·rfl
    ·have := hkn.1 h; omega
   rw [Rpl.tkP_un hk] at hT
   subst hT
   simp only [go_sem, eq_true c]
   try trivial
  have hk := hkn.2 (by omega)
  obtain ⟨k, ha⟩ := Int.eq_ofNat_of_zero_le (show 0 <= r.at x by omega)
  rw [Rpl.tkP_some hx hk ha] at hT
  rw [ha] at c hr ⊢
  have k0 : (0 : Int) <= (k : Int) := by omega
  have k1 : k < r.blocks.length := by omega
  have k2 : (k : Int) < (r.blocks.length : Int) := by omega
  simp only [go_sem, c]
  have hhi : 0 <= x.view + 1 /\ x.view + 1 <= 100001 := by omega
  have w1 : IntKind.i64.wrap (x.view + 1) = x.view + 1 := wrap64 (by omega) (by omega)
  by_cases g : r.high.view < x.view
  ·have eh : hiP r x = x := if_pos g
   simp only [go_sem, g, w1]
   refine call_lend ?_
   simp only [go_sem]
   refine callN.eq (ok117 x (by omega)) (by simp only [go_sem]) ?_
   simp only [go_sem]
   have hw1 : ({ r with high := x, view := maxI r.view (minI (x.view + 1) 100000), locked := maxI r.locked (r.blocks.getD k default).proof.view } : Rpl).wf := by
    have := hw.tk1 hx (maxI r.view (minI (x.view + 1) 100000)) (maxI r.locked (r.blocks.getD k default).proof.view)
    rwa [eh] at this
   rw [eh] at hT
   simp only [go_sem, k0, k1, k2, w1]
   refine call_mut 0 0 rfl rfl rfl (by simp only [go_sem]) ?_
   simp only [go_sem, List.set]
   refine callM.eq (ok147 { r with high := x, view := maxI r.view (minI (x.view + 1) 100000), locked := maxI r.locked (r.blocks.getD k default).proof.view } out hw1 k k1) ?_
   simp only [go_sem]
   rw [hT]
   try trivial
  ·have eh : hiP r x = r.high := if_neg g
   simp only [go_sem, g, w1]
   have hw1 : ({ r with high := r.high, view := maxI r.view (minI (x.view + 1) 100000), locked := maxI r.locked (r.blocks.getD k default).proof.view } : Rpl).wf := by
    have := hw.tk1 hx (maxI r.view (minI (x.view + 1) 100000)) (maxI r.locked (r.blocks.getD k default).proof.view)
    rwa [eh] at this
   rw [eh] at hT
   simp only [go_sem, k0, k1, k2, w1]
   refine call_mut 0 0 rfl rfl rfl (by simp only [go_sem]) ?_
   simp only [go_sem, List.set]
   refine callM.eq (ok147 { r with high := r.high, view := maxI r.view (minI (x.view + 1) 100000), locked := maxI r.locked (r.blocks.getD k default).proof.view } out hw1 k k1) ?_
   simp only [go_sem]
   rw [hT]
   try trivial
 ·have ha := Rpl.at_one (r := r) ho
  rw [Rpl.tkP_none hx (knwB_one ho) (by omega)] at hT
  simp only [go_sem]
  have hhi : 0 <= x.view + 1 /\ x.view + 1 <= 100001 := by omega
  have w1 : IntKind.i64.wrap (x.view + 1) = x.view + 1 := wrap64 (by omega) (by omega)
  by_cases g : r.high.view < x.view
  ·have eh : hiP r x = x := if_pos g
   simp only [go_sem, g, w1]
   refine call_lend ?_
   simp only [go_sem]
   refine callN.eq (ok117 x (by omega)) (by simp only [go_sem]) ?_
   simp only [go_sem]
   rw [eh] at hT
   try simp only [go_sem, w1]
   rw [hT]
   try trivial
  ·have eh : hiP r x = r.high := if_neg g
   simp only [go_sem, g, w1]
   rw [eh] at hT
   try simp only [go_sem, w1]
   rw [hT]
   try trivial
end Go.VS
