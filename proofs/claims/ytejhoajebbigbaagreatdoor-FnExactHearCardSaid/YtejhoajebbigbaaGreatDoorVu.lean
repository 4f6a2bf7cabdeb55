/- VS: functions by the machine. -/
import Derived.Test.YtejhoajebbigbaaGreatDoorVl
import Derived.Test.YtejhoajebbigbaaGreatDoorVn
set_option linter.unusedSimpArgs false
set_option linter.unusedVariables false
open Go.Proofs
set_option maxRecDepth 20000
namespace Go.VS
theorem f106_at : gz.P.funcs[106]? = some Tryz.f106 := by
 have h : Tryz.prog.funcs[106]? = some Tryz.f106 := by kernel_rfl
 exact h
theorem ok106 (a b : Int) : VCalls gz 106 [.lit (.int .i64 a), .lit (.int .i64 b)] none (fun y _ => y = .lit (.int .i64 (minI a b))) := by
 refine VCalls.go (nt := 10) (keep := [0, 1, 4, 7]) (muts := []) (mvs := []) [] f106_at rfl (by kernel_rfl) rfl (by kernel_rfl) rfl (fun i h => by cases h) rfl ?_
 intro hok
 simp only [go_sem] at hok
 simp only [Tryz.f106, Func.code, Option.getD_some]
 simp only [go_sem]
 unfold minI
 by_cases h1 : a < b
 ·have h2 : ¬ b < a := by omega
  simp only [go_sem, h1, h2]
  try trivial
 ·by_cases h2 : b < a
  ·simp only [go_sem, h1, h2]
   try trivial
  ·have : a = b := by omega
   subst this
   simp only [go_sem, h1]
   try trivial
theorem minI_comm (a b : Int) : minI a b = minI b a := by unfold minI; split <;> split <;> omega
theorem okM106 (a b : Int) : VCalls gz 106 [.lit (.int .i64 a), .lit (.int .i64 b)] none (fun y _ => y = .lit (.int .i64 (minI b a))) := by
 have h := ok106 a b
 rwa [minI_comm] at h
theorem okM100 (a b : Int) : VCalls gz 100 [.lit (.int .i64 a), .lit (.int .i64 b)] none (fun y _ => y = .lit (.int .i64 (maxI a b))) := by
 have h := ok100 a b
 rwa [show (if b < a then a else b) = maxI a b by unfold maxI; split <;> split <;> omega] at h
theorem Rpl.up_congr {R r : Rpl} (hb : R.blocks = r.blocks) (i : Nat) : R.up i = r.up i := by
 unfold Rpl.up Rpl.at
 rw [hb]
theorem Rpl.chF_congr {R r : Rpl} (hb : R.blocks = r.blocks) : ∀ (n : Nat) (i : Int), R.chF n i = r.chF n i
 | 0, i => rfl
 | n + 1, i => by
  unfold Rpl.chF
  rw [Rpl.up_congr hb, hb, Rpl.chF_congr hb n]
theorem blk_get {xs : List Blk} {o : Bool} {i : Nat} (h : i < xs.length) : (xs.map (Blk.enc o))[i]? = some ((xs.getD i default).enc o) := by
 rw [List.getElem?_map, List.getElem?_eq_getElem h, getElem_D h]
 rfl
set_option maxHeartbeats 1000000 in
theorem ok72 (r : Rpl) (hw : r.wf) (x : Prf) : VCalls gz 72 [.ptr true (r.enc true), x.enc false] (some 0) (fun y x' => y = .tup [] /\ x' = (r.tkP x).enc true) := by
 obtain ⟨T, hT⟩ : ∃ T, T = r.tkP x := ⟨_, rfl⟩
 rw [<- hT]
 refine VCalls.go (nt := 187) (keep := [0, 1, 3, 4, 5, 6, 7, 8, 9, 25, 33, 65, 115, 154, 182]) (muts := [0]) (mvs := [3,16]) [(1, .tree true (.take 0 (.take 1 (.take 2 (.take 3 (.take 4 (.all (.cons 5 (.take 6 (.take 7 (.take 8 (.take 9 (.take 10 (.take 11 (.take 12 (.all (.cons 13 (.take 14 (.take 15 .done)) .nil))))))))) .nil)))))))), (2, .chain true [0, 1, 2, 3, 4, 5, 6, 7]), (4, .ex false (.take 0 (.take 1 (.take 2 (.take 3 (.take 5 (.all (.cons 4 (.all (.cons 6 (.take 7 (.all (.cons 8 (.all (.cons 9 (.take 10 (.take 11 (.all (.cons 12 .done .nil)))) .nil)) .nil))) .nil)) (.cons 6 (.take 7 (.all (.cons 4 (.all (.cons 8 (.all (.cons 9 (.take 10 (.take 11 (.all (.cons 12 .done .nil)))) .nil)) .nil)) (.cons 8 (.all (.cons 4 (.all (.cons 9 (.take 10 (.take 11 (.all (.cons 12 .done .nil)))) .nil)) .nil)) .nil)))) .nil))))))))), (5, .tree true (.take 0 (.take 1 (.take 2 (.take 3 (.take 4 (.take 5 (.take 6 (.take 7 (.all (.cons 8 (.all (.cons 9 .done .nil)) .nil))))))))))), (8, .ex false (.take 0 (.take 1 (.take 2 (.take 3 (.take 5 (.take 6 (.all (.cons 4 (.all (.cons 7 (.all (.cons 8 (.take 9 (.take 10 (.all (.cons 11 .done .nil)))) .nil)) .nil)) (.cons 7 (.all (.cons 4 (.all (.cons 8 (.take 9 (.take 10 (.all (.cons 11 .done .nil)))) .nil)) .nil)) .nil)))))))))), (9, .tree true (.take 0 (.take 1 (.take 2 (.take 3 (.take 4 (.take 5 (.take 6 (.take 7 (.take 8 (.take 9 (.all (.cons 10 (.all (.cons 11 .done .nil)) .nil))))))))))))), (10, .tree true (.take 0 (.take 1 (.all (.cons 2 (.take 3 (.take 4 (.take 5 (.take 6 (.take 7 (.take 8 (.take 9 (.take 10 (.take 11 (.take 12 (.take 13 (.take 14 (.take 15 (.take 16 (.take 17 (.take 18 (.take 19 (.take 20 .done)))))))))))))))))) .nil))))), (12, .tree true (.take 0 (.take 1 (.take 2 (.take 3 (.take 4 (.take 5 (.take 6 (.take 7 (.take 8 (.take 9 (.all (.cons 10 (.all (.cons 11 .done .nil)) .nil))))))))))))), (13, .tree true (.take 0 (.take 1 (.all (.cons 2 (.take 3 (.take 4 (.take 5 (.take 6 (.take 7 (.take 8 (.take 9 (.take 10 (.take 11 (.take 12 (.take 13 (.take 14 (.take 15 (.take 16 (.take 17 (.take 18 (.take 19 (.take 20 .done)))))))))))))))))) .nil))))), (15, .tree true (.take 0 (.take 1 (.take 2 (.take 3 (.take 4 (.take 5 (.take 6 (.take 7 (.take 8 (.take 9 (.take 10 (.take 11 (.take 12 (.take 13 (.take 14 (.take 16 (.take 17 (.take 18 (.take 19 (.all (.cons 15 (.all (.cons 20 (.take 21 .done) .nil)) .nil))))))))))))))))))))))] f72_at rfl (by kernel_rfl) rfl (by kernel_rfl) rfl (fun i h => by cases h; exact ⟨rfl, by simp⟩) rfl ?_
 intro hok
 simp only [go_sem] at hok
 simp only [Tryz.f72, Func.code, Option.getD_some]
 simp only [go_sem]
 refine call_lend ?_
 simp only [go_sem]
 refine callN.eq (ok62 x r.n) (by simp only [go_sem]) ?_
 simp only [go_sem]
 cases hx : x.ok r.n
 ·rw [Rpl.tkP_bad hx] at hT
  subst hT
  simp only [go_sem]
  try trivial
 have hv := Prf.ok_view hx
 have hz := Prf.ok_sz hx
 simp only [go_sem]
 refine call_lend ?_
 simp only [go_sem]
 refine callN.eq (ok64 r.blocks x) (by simp only [go_sem]) ?_
 simp only [go_sem]
 cases hk : knwB r.blocks x
 ·rw [Rpl.tkP_un hk] at hT
  subst hT
  simp only [go_sem]
  try trivial
 have hhi : 0 <= x.view + 1 /\ x.view + 1 <= 100001 := by omega
 have w1 : IntKind.i64.wrap (x.view + 1) = x.view + 1 := wrap64 (by omega) (by omega)
 cases ho : x.one
 ·have hkn := knwB_not (l := r.blocks) ho
  have hat := Rpl.at_not (r := r) ho
  have hr := idxOf_rng (fndP x.name x.view) r.blocks
  rw [<- hat] at hkn hr
  have hk2 := hkn.1 hk
  obtain ⟨k, ha⟩ := Int.eq_ofNat_of_zero_le hk2
  rw [Rpl.tkP_some hx hk ha] at hT
  rw [ha] at hr
  have k0 : (0 : Int) <= (k : Int) := by omega
  have c : ¬ ((k : Int) < 0) := by omega
  have k1 : k < r.blocks.length := by omega
  have k2 : (k : Int) < (r.blocks.length : Int) := by omega
  by_cases g : r.high.view < x.view
  ·have eh : hiP r x = x := if_pos g
   simp only [go_sem, g]
   refine call_lend ?_
   simp only [go_sem]
   refine callN.eq (ok68 x (by omega)) (by simp only [go_sem]) ?_
   simp only [go_sem]
   obtain ⟨R, hR⟩ : ∃ R : Rpl, R = { r with high := x, view := maxI r.view (minI (x.view + 1) 100000), locked := maxI r.locked (r.blocks.getD k default).proof.view } := ⟨_, rfl⟩
   have hw1 : R.wf := by
    have := hw.tk1 hx (maxI r.view (minI (x.view + 1) 100000)) (maxI r.locked (r.blocks.getD k default).proof.view)
    rw [eh] at this
    rw [hR]
    exact this
   rw [eh, <- hR] at hT
   have hb : R.blocks = r.blocks := by rw [hR]
   refine draw_mk (L := ?La) ?h1a ?h2a
   case h1a =>
    simp only [go_sem, w1]
    repeat' refine And.intro ?_ ?_
    all_goals
     refine call_lend ?_
     simp only [go_sem]
     refine callN.eq (okM106 100000 (x.view + 1)) (by simp only [go_sem]) ?_
     simp only [go_sem]
     repeat' refine And.intro ?_ ?_
     all_goals
      refine call_lend ?_
      simp only [go_sem]
      refine callN.eq (okM100 r.view (minI (x.view + 1) 100000)) (by simp only [go_sem]) ?_
      simp only [go_sem]
      try first | with_reducible exact rfl | exact mkE_perm (by kernel_rfl)
   case h2a =>
    simp only [go_sem]
    refine call_lend ?_
    simp only [go_sem]
    refine callN.eq (ok99 r.blocks x.name x.view) (by simp only [go_sem]) ?_
    simp only [go_sem]
    rw [<- hat, ha]
    refine call_lend ?_
    simp only [go_sem]
    refine callN.eq (ok95 x) (by simp only [go_sem]) ?_
    simp only [go_sem]
    simp only [go_sem, ho, c, k0, k1, k2]
    refine draw_mk (L := ?Ma) ?h3a ?h4a
    case h3a =>
     simp only [go_sem]
     repeat' refine And.intro ?_ ?_
     all_goals
      refine call_lend ?_
      simp only [go_sem]
      refine callN.eq (okM100 r.locked (r.blocks.getD k default).proof.view) (by simp only [go_sem]) ?_
      simp only [go_sem]
      try first | with_reducible exact rfl | exact mkE_perm (by kernel_rfl)
    case h4a =>
     have u1 := Rpl.up_congr hb k
     have hvk := hw.bk_view k1
     have hu := hw.up_rng k1
     simp only [go_sem]
     refine call_lend ?_
     simp only [go_sem]
     refine callN.eq (ok99 r.blocks (r.blocks.getD k default).proof.name (r.blocks.getD k default).proof.view) (by simp only [go_sem]) ?_
     simp only [go_sem]
     have hgk := blk_get (o := true) k1
     refine call_lend ?_
     simp only [go_sem, hgk]
     refine callN.eq (ok95 (r.blocks.getD k default).proof) (by simp only [go_sem, hgk]) ?_
     simp only [go_sem, hgk]
     cases f1 : (r.blocks.getD k default).proof.one
     rotate_left
     ·have hu1 : r.up k = -1 := Rpl.at_one f1
      rw [Rpl.agr1 (by omega)] at hT
      simp only [go_sem]
      subst hT
      subst hR
      simp only [and_self]
     have hu1 : r.up k = idxOf (fndP (r.blocks.getD k default).proof.name (r.blocks.getD k default).proof.view) r.blocks := Rpl.at_not f1
     rw [<- hu1]
     by_cases c1 : r.up k < 0
     ·rw [Rpl.agr1 (by omega)] at hT
      simp only [go_sem, eq_true c1]
      subst hT
      subst hR
      simp only [and_self]
     obtain ⟨c', hc⟩ := Int.eq_ofNat_of_zero_le (show 0 <= r.up k by omega)
     rw [hc] at hu c1 ⊢
     have hcl : c' < r.blocks.length := by omega
     have hc2 : (c' : Int) < (r.blocks.length : Int) := by omega
     have hc0 : (0 : Int) <= (c' : Int) := by omega
     have hvc := hw.bk_view hcl
     have w2 : IntKind.i64.wrap ((r.blocks.getD c' default).view + 1) = (r.blocks.getD c' default).view + 1 := wrap64 (by omega) (by omega)
     simp only [go_sem, c1, hc0, hc2, hcl, w2]
     by_cases c2 : (r.blocks.getD c' default).view + 1 = (r.blocks.getD k default).view
     rotate_left
     ·have c2' : ¬ (R.blocks.getD c' default).view = (R.blocks.getD k default).view - 1 := by rw [hb]; omega
      rw [Rpl.agr2 (by rw [u1]; exact hc) c2'] at hT
      simp only [go_sem, c2]
      subst hT
      subst hR
      simp only [and_self]
     have c2' : (R.blocks.getD c' default).view = (R.blocks.getD k default).view - 1 := by rw [hb]; omega
     simp only [go_sem, eq_true c2, hc0, hc2, hcl]
     have u2 := Rpl.up_congr hb c'
     have hu2 := hw.up_rng hcl
     refine call_lend ?_
     simp only [go_sem]
     refine callN.eq (ok99 r.blocks (r.blocks.getD c' default).proof.name (r.blocks.getD c' default).proof.view) (by simp only [go_sem]) ?_
     simp only [go_sem]
     have hgc := blk_get (o := true) hcl
     refine call_lend ?_
     simp only [go_sem, hgc]
     refine callN.eq (ok95 (r.blocks.getD c' default).proof) (by simp only [go_sem, hgc]) ?_
     simp only [go_sem, hgc]
     cases f2 : (r.blocks.getD c' default).proof.one
     rotate_left
     ·have hu3 : r.up c' = -1 := Rpl.at_one f2
      rw [Rpl.agr3 (by rw [u1]; exact hc) c2' (by omega)] at hT
      simp only [go_sem]
      subst hT
      subst hR
      simp only [and_self]
     have hu3 : r.up c' = idxOf (fndP (r.blocks.getD c' default).proof.name (r.blocks.getD c' default).proof.view) r.blocks := Rpl.at_not f2
     rw [<- hu3]
     by_cases c3 : r.up c' < 0
     ·rw [Rpl.agr3 (by rw [u1]; exact hc) c2' (by omega)] at hT
      simp only [go_sem, eq_true c3]
      subst hT
      subst hR
      simp only [and_self]
     obtain ⟨d, hd⟩ := Int.eq_ofNat_of_zero_le (show 0 <= r.up c' by omega)
     rw [hd] at hu2 c3 ⊢
     have hdl : d < r.blocks.length := by omega
     have hd2 : (d : Int) < (r.blocks.length : Int) := by omega
     have hd0 : (0 : Int) <= (d : Int) := by omega
     have hvd := hw.bk_view hdl
     have w3 : IntKind.i64.wrap ((r.blocks.getD d default).view + 1) = (r.blocks.getD d default).view + 1 := wrap64 (by omega) (by omega)
     simp only [go_sem, c3, hd0, hd2, hdl, w3]
     by_cases c4 : (r.blocks.getD d default).view + 1 = (r.blocks.getD c' default).view
     rotate_left
     ·have c4' : ¬ (R.blocks.getD d default).view = (R.blocks.getD k default).view - 2 := by rw [hb]; omega
      rw [Rpl.agr4 (by rw [u1]; exact hc) c2' (by rw [u2]; exact hd) c4'] at hT
      simp only [go_sem, c4]
      subst hT
      subst hR
      simp only [and_self]
     have c4' : (R.blocks.getD d default).view = (R.blocks.getD k default).view - 2 := by rw [hb]; omega
     have e5 := Rpl.agr5 (r := R) (by rw [u1]; exact hc) c2' (by rw [u2]; exact hd) c4'
     rw [<- hT, Rpl.chF_congr hb] at e5
     have hdn : R.done = r.done := by rw [hR]
     rw [hdn] at e5
     simp only [go_sem, eq_true c4]
     have hcl5 := Rpl.chF_len r 61 (d : Int)
     refine call_lend ?_
     simp only [go_sem]
     refine callN.eq (ok107 r hw (d : Int) (by omega) hd2) (by simp only [go_sem]) ?_
     simp only [go_sem]
     obtain ⟨C, hC⟩ : ∃ C, C = r.chF 61 (d : Int) := ⟨_, rfl⟩
     rw [<- hC] at e5 hcl5 ⊢
     intro hl1 hl2
     by_cases c5 : r.done.length < C.length
     rotate_left
     ·have n5 : ¬ ((r.done.length : Int) < (C.length : Int)) := by omega
      rw [if_neg (fun h => c5 h.1)] at e5
      simp only [go_sem, n5]
      subst e5
      subst hR
      simp only [and_self]
     have n5 : (r.done.length : Int) < (C.length : Int) := by omega
     simp only [go_sem, n5]
     intro _
     have hle : r.done.length <= C.length := by omega
     refine ⟨by omega, by omega, fun hp => ?_, fun hp => ?_⟩
     ·refine call_lend ?_
      simp only [go_sem, Nat.sub_zero, List.drop_zero, hle]
      refine callN.eq (ok108 (C.take r.done.length) r.done) (by simp only [go_sem, Nat.sub_zero, List.drop_zero, hle]) ?_
      simp only [go_sem, Nat.sub_zero, List.drop_zero, hle]
      by_cases c6 : C.take r.done.length = r.done
      ·rw [if_pos ⟨c5, c6⟩] at e5
       simp only [go_sem, eq_true c6]
       subst e5
       subst hR
       simp only [and_self]
      ·rw [if_neg (fun h => c6 h.2)] at e5
       simp only [go_sem, c6]
       subst e5
       subst hR
       simp only [and_self]
     ·have hd0 : r.done = [] := List.eq_nil_of_length_eq_zero (by omega)
      have c6 : C.take r.done.length = r.done := by rw [hd0]; simp
      rw [if_pos ⟨c5, c6⟩] at e5
      refine call_lend ?_
      simp only [go_sem, hd0]
      refine callN.eq (ok108 [] []) (by simp only [go_sem, hd0]) ?_
      simp only [go_sem, hd0]
      subst e5
      subst hR
      simp only [and_self]
  ·have eh : hiP r x = r.high := if_neg g
   simp only [go_sem, g]
   obtain ⟨R, hR⟩ : ∃ R : Rpl, R = { r with high := r.high, view := maxI r.view (minI (x.view + 1) 100000), locked := maxI r.locked (r.blocks.getD k default).proof.view } := ⟨_, rfl⟩
   have hw1 : R.wf := by
    have := hw.tk1 hx (maxI r.view (minI (x.view + 1) 100000)) (maxI r.locked (r.blocks.getD k default).proof.view)
    rw [eh] at this
    rw [hR]
    exact this
   rw [eh, <- hR] at hT
   have hb : R.blocks = r.blocks := by rw [hR]
   refine draw_mk (L := ?Lb) ?h1b ?h2b
   case h1b =>
    simp only [go_sem, w1]
    repeat' refine And.intro ?_ ?_
    all_goals
     refine call_lend ?_
     simp only [go_sem]
     refine callN.eq (okM106 100000 (x.view + 1)) (by simp only [go_sem]) ?_
     simp only [go_sem]
     repeat' refine And.intro ?_ ?_
     all_goals
      refine call_lend ?_
      simp only [go_sem]
      refine callN.eq (okM100 r.view (minI (x.view + 1) 100000)) (by simp only [go_sem]) ?_
      simp only [go_sem]
      try first | with_reducible exact rfl | exact mkE_perm (by kernel_rfl)
   case h2b =>
    simp only [go_sem]
    refine call_lend ?_
    simp only [go_sem]
    refine callN.eq (ok99 r.blocks x.name x.view) (by simp only [go_sem]) ?_
    simp only [go_sem]
    rw [<- hat, ha]
    refine call_lend ?_
    simp only [go_sem]
    refine callN.eq (ok95 x) (by simp only [go_sem]) ?_
    simp only [go_sem]
    simp only [go_sem, ho, c, k0, k1, k2]
    refine draw_mk (L := ?Mb) ?h3b ?h4b
    case h3b =>
     simp only [go_sem]
     repeat' refine And.intro ?_ ?_
     all_goals
      refine call_lend ?_
      simp only [go_sem]
      refine callN.eq (okM100 r.locked (r.blocks.getD k default).proof.view) (by simp only [go_sem]) ?_
      simp only [go_sem]
      try first | with_reducible exact rfl | exact mkE_perm (by kernel_rfl)
    case h4b =>
     have u1 := Rpl.up_congr hb k
     have hvk := hw.bk_view k1
     have hu := hw.up_rng k1
     simp only [go_sem]
     refine call_lend ?_
     simp only [go_sem]
     refine callN.eq (ok99 r.blocks (r.blocks.getD k default).proof.name (r.blocks.getD k default).proof.view) (by simp only [go_sem]) ?_
     simp only [go_sem]
     have hgk := blk_get (o := true) k1
     refine call_lend ?_
     simp only [go_sem, hgk]
     refine callN.eq (ok95 (r.blocks.getD k default).proof) (by simp only [go_sem, hgk]) ?_
     simp only [go_sem, hgk]
     cases f1 : (r.blocks.getD k default).proof.one
     rotate_left
     ·have hu1 : r.up k = -1 := Rpl.at_one f1
      rw [Rpl.agr1 (by omega)] at hT
      simp only [go_sem]
      subst hT
      subst hR
      simp only [and_self]
     have hu1 : r.up k = idxOf (fndP (r.blocks.getD k default).proof.name (r.blocks.getD k default).proof.view) r.blocks := Rpl.at_not f1
     rw [<- hu1]
     by_cases c1 : r.up k < 0
     ·rw [Rpl.agr1 (by omega)] at hT
      simp only [go_sem, eq_true c1]
      subst hT
      subst hR
      simp only [and_self]
     obtain ⟨c', hc⟩ := Int.eq_ofNat_of_zero_le (show 0 <= r.up k by omega)
     rw [hc] at hu c1 ⊢
     have hcl : c' < r.blocks.length := by omega
     have hc2 : (c' : Int) < (r.blocks.length : Int) := by omega
     have hc0 : (0 : Int) <= (c' : Int) := by omega
     have hvc := hw.bk_view hcl
     have w2 : IntKind.i64.wrap ((r.blocks.getD c' default).view + 1) = (r.blocks.getD c' default).view + 1 := wrap64 (by omega) (by omega)
     simp only [go_sem, c1, hc0, hc2, hcl, w2]
     by_cases c2 : (r.blocks.getD c' default).view + 1 = (r.blocks.getD k default).view
     rotate_left
     ·have c2' : ¬ (R.blocks.getD c' default).view = (R.blocks.getD k default).view - 1 := by rw [hb]; omega
      rw [Rpl.agr2 (by rw [u1]; exact hc) c2'] at hT
      simp only [go_sem, c2]
      subst hT
      subst hR
      simp only [and_self]
     have c2' : (R.blocks.getD c' default).view = (R.blocks.getD k default).view - 1 := by rw [hb]; omega
     simp only [go_sem, eq_true c2, hc0, hc2, hcl]
     have u2 := Rpl.up_congr hb c'
     have hu2 := hw.up_rng hcl
     refine call_lend ?_
     simp only [go_sem]
     refine callN.eq (ok99 r.blocks (r.blocks.getD c' default).proof.name (r.blocks.getD c' default).proof.view) (by simp only [go_sem]) ?_
     simp only [go_sem]
     have hgc := blk_get (o := true) hcl
     refine call_lend ?_
     simp only [go_sem, hgc]
     refine callN.eq (ok95 (r.blocks.getD c' default).proof) (by simp only [go_sem, hgc]) ?_
     simp only [go_sem, hgc]
     cases f2 : (r.blocks.getD c' default).proof.one
     rotate_left
     ·have hu3 : r.up c' = -1 := Rpl.at_one f2
      rw [Rpl.agr3 (by rw [u1]; exact hc) c2' (by omega)] at hT
      simp only [go_sem]
      subst hT
      subst hR
      simp only [and_self]
     have hu3 : r.up c' = idxOf (fndP (r.blocks.getD c' default).proof.name (r.blocks.getD c' default).proof.view) r.blocks := Rpl.at_not f2
     rw [<- hu3]
     by_cases c3 : r.up c' < 0
     ·rw [Rpl.agr3 (by rw [u1]; exact hc) c2' (by omega)] at hT
      simp only [go_sem, eq_true c3]
      subst hT
      subst hR
      simp only [and_self]
     obtain ⟨d, hd⟩ := Int.eq_ofNat_of_zero_le (show 0 <= r.up c' by omega)
     rw [hd] at hu2 c3 ⊢
     have hdl : d < r.blocks.length := by omega
     have hd2 : (d : Int) < (r.blocks.length : Int) := by omega
     have hd0 : (0 : Int) <= (d : Int) := by omega
     have hvd := hw.bk_view hdl
     have w3 : IntKind.i64.wrap ((r.blocks.getD d default).view + 1) = (r.blocks.getD d default).view + 1 := wrap64 (by omega) (by omega)
     simp only [go_sem, c3, hd0, hd2, hdl, w3]
     by_cases c4 : (r.blocks.getD d default).view + 1 = (r.blocks.getD c' default).view
     rotate_left
     ·have c4' : ¬ (R.blocks.getD d default).view = (R.blocks.getD k default).view - 2 := by rw [hb]; omega
      rw [Rpl.agr4 (by rw [u1]; exact hc) c2' (by rw [u2]; exact hd) c4'] at hT
      simp only [go_sem, c4]
      subst hT
      subst hR
      simp only [and_self]
     have c4' : (R.blocks.getD d default).view = (R.blocks.getD k default).view - 2 := by rw [hb]; omega
     have e5 := Rpl.agr5 (r := R) (by rw [u1]; exact hc) c2' (by rw [u2]; exact hd) c4'
     rw [<- hT, Rpl.chF_congr hb] at e5
     have hdn : R.done = r.done := by rw [hR]
     rw [hdn] at e5
     simp only [go_sem, eq_true c4]
     have hcl5 := Rpl.chF_len r 61 (d : Int)
     refine call_lend ?_
     simp only [go_sem]
     refine callN.eq (ok107 r hw (d : Int) (by omega) hd2) (by simp only [go_sem]) ?_
     simp only [go_sem]
     obtain ⟨C, hC⟩ : ∃ C, C = r.chF 61 (d : Int) := ⟨_, rfl⟩
     rw [<- hC] at e5 hcl5 ⊢
     intro hl1 hl2
     by_cases c5 : r.done.length < C.length
     rotate_left
     ·have n5 : ¬ ((r.done.length : Int) < (C.length : Int)) := by omega
      rw [if_neg (fun h => c5 h.1)] at e5
      simp only [go_sem, n5]
      subst e5
      subst hR
      simp only [and_self]
     have n5 : (r.done.length : Int) < (C.length : Int) := by omega
     simp only [go_sem, n5]
     intro _
     have hle : r.done.length <= C.length := by omega
     refine ⟨by omega, by omega, fun hp => ?_, fun hp => ?_⟩
     ·refine call_lend ?_
      simp only [go_sem, Nat.sub_zero, List.drop_zero, hle]
      refine callN.eq (ok108 (C.take r.done.length) r.done) (by simp only [go_sem, Nat.sub_zero, List.drop_zero, hle]) ?_
      simp only [go_sem, Nat.sub_zero, List.drop_zero, hle]
      by_cases c6 : C.take r.done.length = r.done
      ·rw [if_pos ⟨c5, c6⟩] at e5
       simp only [go_sem, eq_true c6]
       subst e5
       subst hR
       simp only [and_self]
      ·rw [if_neg (fun h => c6 h.2)] at e5
       simp only [go_sem, c6]
       subst e5
       subst hR
       simp only [and_self]
     ·have hd0 : r.done = [] := List.eq_nil_of_length_eq_zero (by omega)
      have c6 : C.take r.done.length = r.done := by rw [hd0]; simp
      rw [if_pos ⟨c5, c6⟩] at e5
      refine call_lend ?_
      simp only [go_sem, hd0]
      refine callN.eq (ok108 [] []) (by simp only [go_sem, hd0]) ?_
      simp only [go_sem, hd0]
      subst e5
      subst hR
      simp only [and_self]
 ·have ha := Rpl.at_one (r := r) ho
  rw [Rpl.tkP_none hx (knwB_one ho) (by omega)] at hT
  by_cases g : r.high.view < x.view
  ·have eh : hiP r x = x := if_pos g
   simp only [go_sem, g]
   refine call_lend ?_
   simp only [go_sem]
   refine callN.eq (ok68 x (by omega)) (by simp only [go_sem]) ?_
   simp only [go_sem]
   rw [eh] at hT
   refine draw_mk (L := ?Lc) ?h1c ?h2c
   case h1c =>
    simp only [go_sem, w1]
    repeat' refine And.intro ?_ ?_
    all_goals
     refine call_lend ?_
     simp only [go_sem]
     refine callN.eq (okM106 100000 (x.view + 1)) (by simp only [go_sem]) ?_
     simp only [go_sem]
     repeat' refine And.intro ?_ ?_
     all_goals
      refine call_lend ?_
      simp only [go_sem]
      refine callN.eq (okM100 r.view (minI (x.view + 1) 100000)) (by simp only [go_sem]) ?_
      simp only [go_sem]
      try first | with_reducible exact rfl | exact mkE_perm (by kernel_rfl)
   case h2c =>
    simp only [go_sem]
    refine call_lend ?_
    simp only [go_sem]
    refine callN.eq (ok99 r.blocks x.name x.view) (by simp only [go_sem]) ?_
    simp only [go_sem]
    refine call_lend ?_
    simp only [go_sem]
    refine callN.eq (ok95 x) (by simp only [go_sem]) ?_
    simp only [go_sem]
    simp only [go_sem, ho]
    subst hT
    simp only [and_self]
  ·have eh : hiP r x = r.high := if_neg g
   simp only [go_sem, g]
   rw [eh] at hT
   refine draw_mk (L := ?Ld) ?h1d ?h2d
   case h1d =>
    simp only [go_sem, w1]
    repeat' refine And.intro ?_ ?_
    all_goals
     refine call_lend ?_
     simp only [go_sem]
     refine callN.eq (okM106 100000 (x.view + 1)) (by simp only [go_sem]) ?_
     simp only [go_sem]
     repeat' refine And.intro ?_ ?_
     all_goals
      refine call_lend ?_
      simp only [go_sem]
      refine callN.eq (okM100 r.view (minI (x.view + 1) 100000)) (by simp only [go_sem]) ?_
      simp only [go_sem]
      try first | with_reducible exact rfl | exact mkE_perm (by kernel_rfl)
   case h2d =>
    simp only [go_sem]
    refine call_lend ?_
    simp only [go_sem]
    refine callN.eq (ok99 r.blocks x.name x.view) (by simp only [go_sem]) ?_
    simp only [go_sem]
    refine call_lend ?_
    simp only [go_sem]
    refine callN.eq (ok95 x) (by simp only [go_sem]) ?_
    simp only [go_sem]
    simp only [go_sem, ho]
    subst hT
    simp only [and_self]
end Go.VS
