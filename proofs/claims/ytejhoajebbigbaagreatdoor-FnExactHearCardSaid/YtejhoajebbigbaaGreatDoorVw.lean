/- VS: functions by the machine. -/
import Derived.Test.YtejhoajebbigbaaGreatDoorVv
import Derived.Test.YtejhoajebbigbaaGreatDoorVq
set_option linter.unusedSimpArgs false
set_option linter.unusedVariables false
open Go.Proofs
set_option maxRecDepth 20000
namespace Go.VS
theorem f70_at : gz.P.funcs[70]? = some Tryz.f70 := by
 have h : Tryz.prog.funcs[70]? = some Tryz.f70 := by kernel_rfl
 exact h
theorem any_none {α : Type} [Inhabited α] {xs : List α} {p : α -> Bool} (h : ∀ j, j < xs.length -> p (xs.getD j default) = false) : xs.any p = false := by
 rw [List.any_eq_false]
 intro x hx hp
 obtain ⟨j, hj, rfl⟩ := List.mem_iff_getElem.1 hx
 rw [getElem_D hj, h j hj] at hp
 cases hp
set_option maxHeartbeats 4000000 in
theorem ok70 (r : Rpl) (hw : r.wf) (b : Blk) : VCalls gz 70 [.ptr true (r.enc true), b.enc false] (some 0) (fun y x' => y = .lst true 20 ((r.tkB b).2.map (Msg.enc true)) /\ x' = (r.tkB b).1.enc true) := by
 obtain ⟨T, hT⟩ : ∃ T, T = (r.tkB b).1 := ⟨_, rfl⟩
 obtain ⟨U, hU⟩ : ∃ U, U = (r.tkB b).2 := ⟨_, rfl⟩
 rw [<- hT, <- hU]
 have hbl := hw.bl
 have hn := srv_rng hw.sv
 have hn0 : ¬ r.n = 0 := by omega
 refine VCalls.go (nt := 143) (keep := [0, 1, 3, 4, 5, 6, 7, 8, 9, 35, 45, 57, 100, 128]) (muts := [0]) (mvs := [3,9,14,20]) [(2, .tree true (.take 0 (.take 1 (.take 2 (.take 3 (.take 4 (.all (.cons 5 (.take 6 (.take 7 (.take 8 (.take 9 (.take 10 (.take 11 (.take 12 (.take 13 (.all (.cons 14 (.take 15 (.take 16 (.take 17 (.take 18 (.take 19 (.take 20 (.take 21 (.take 22 (.take 23 (.take 24 .done)))))))))) .nil)))))))))) .nil)))))))), (10, .ex false (.take 0 (.take 1 (.take 2 (.take 3 (.all (.cons 4 (.all (.cons 5 (.all (.cons 6 (.all (.cons 7 (.all (.cons 8 (.take 9 (.take 10 (.all (.cons 11 .done .nil)))) .nil)) .nil)) .nil)) .nil)) (.cons 5 (.all (.cons 4 (.all (.cons 6 (.all (.cons 7 (.all (.cons 8 (.take 9 (.take 10 (.all (.cons 11 .done .nil)))) .nil)) .nil)) .nil)) (.cons 6 (.all (.cons 4 (.all (.cons 7 (.all (.cons 8 (.take 9 (.take 10 (.all (.cons 11 .done .nil)))) .nil)) .nil)) (.cons 7 (.all (.cons 4 (.all (.cons 8 (.take 9 (.take 10 (.all (.cons 11 .done .nil)))) .nil)) .nil)) .nil))) .nil))) .nil)))))))), (12, .ex false (.take 0 (.take 1 (.take 2 (.take 3 (.take 5 (.all (.cons 4 (.all (.cons 6 (.all (.cons 7 (.take 8 (.take 9 (.all (.cons 10 .done .nil)))) .nil)) .nil)) (.cons 6 (.all (.cons 4 (.all (.cons 7 (.take 8 (.take 9 (.all (.cons 10 .done .nil)))) .nil)) .nil)) .nil))))))))), (13, .chain true [0, 1, 2, 3, 4, 5, 6, 7, 8, 9, 10, 11, 12, 13, 14, 15, 16]), (16, .ex false (.take 0 (.take 1 (.take 2 (.take 4 (.take 6 (.all (.cons 3 (.all (.cons 5 (.all (.cons 7 (.all (.cons 8 (.all (.cons 9 .done .nil)) .nil)) (.cons 8 (.all (.cons 7 (.all (.cons 9 .done .nil)) .nil)) .nil))) (.cons 8 (.all (.cons 5 (.all (.cons 7 (.all (.cons 9 .done .nil)) .nil)) .nil)) .nil))) (.cons 5 (.all (.cons 3 (.all (.cons 7 (.all (.cons 8 (.all (.cons 9 .done .nil)) .nil)) (.cons 8 (.all (.cons 7 (.all (.cons 9 .done .nil)) .nil)) .nil))) (.cons 8 (.all (.cons 3 (.all (.cons 7 (.all (.cons 9 .done .nil)) .nil)) .nil)) .nil))) (.cons 8 (.all (.cons 3 (.all (.cons 5 (.all (.cons 7 (.all (.cons 9 .done .nil)) .nil)) .nil)) (.cons 5 (.all (.cons 3 (.all (.cons 7 (.all (.cons 9 .done .nil)) .nil)) .nil)) .nil))) .nil)))))))))), (17, .tree true (.take 0 (.take 1 (.take 2 (.take 3 (.take 4 (.take 5 (.take 6 (.take 7 (.all (.cons 8 .done .nil))))))))))), (21, .tree false (.take 0 (.take 1 (.take 2 (.take 3 (.take 5 (.all (.cons 4 (.all (.cons 6 (.all (.cons 7 (.all (.cons 8 (.all (.cons 9 (.all (.cons 10 .done .nil)) .nil)) .nil)) .nil)) .nil)) (.cons 6 (.all (.cons 4 (.all (.cons 7 (.all (.cons 8 (.all (.cons 9 (.all (.cons 10 .done .nil)) .nil)) .nil)) .nil)) .nil)) .nil)))))))))] f70_at rfl (by kernel_rfl) rfl (by kernel_rfl) rfl (fun i h => by cases h; exact ⟨rfl, by simp⟩) rfl ?_
 intro hok
 simp only [go_sem] at hok
 simp only [Tryz.f70, Func.code, Option.getD_some]
 simp only [go_sem]
 refine call_lend ?_
 simp only [go_sem]
 refine callN.eq (ok63 b r.n) (by simp only [go_sem]) ?_
 simp only [go_sem]
 cases c2 : b.ok r.n
 ·rw [Rpl.tkB_no (fun h => by have := h.1; rw [c2] at this; cases this)] at hT hU
  simp only at hT hU
  subst hT hU
  simp only [go_sem]
  try trivial
 have hsz := Blk.ok_sz c2
 have hbv := (Blk.ok_of c2).2.1
 simp only [go_sem]
 refine call_lend ?_
 simp only [go_sem]
 refine callN.eq (ok64 r.blocks b.proof) (by simp only [go_sem]) ?_
 simp only [go_sem]
 cases c4 : knwB r.blocks b.proof
 ·rw [Rpl.tkB_no (fun h => by have := h.2.1; rw [c4] at this; cases this)] at hT hU
  simp only at hT hU
  subst hT hU
  simp only [go_sem]
  try trivial
 simp only [go_sem]
 intro _
 by_cases c1 : (60 : Int) <= (r.blocks.length : Int)
 ·rw [Rpl.tkB_no (fun h => by have := h.2.2.1; omega)] at hT hU
  simp only at hT hU
  subst hT hU
  simp only [go_sem, eq_true c1]
  try trivial
 simp only [go_sem, c1]
 refine call_lend ?_
 simp only [go_sem]
 refine callN.eq (ok65 b) (by simp only [go_sem]) ?_
 simp only [go_sem]
 refine vm_loopK (α := Nat) (fun i => [(0, .ptr true (r.enc true)), (3, .ptr true (b.enc false)), (4, .lst true 20 []), (5, .lst true 20 []), (6, .lit (.int .i64 b.nm)), (7, .lit (.int .i64 i))]) (fun i => i <= r.blocks.length /\ ∀ j, j < i -> nmB2 b.nm (r.blocks.getD j default) = false) (fun i => r.blocks.length - i) 0 ?_ ⟨by omega, fun j hj => by omega⟩ (by kernel_rfl) (fun _ => rfl) ?_
 ·simp only [go_sem]
  try trivial
 ·rintro i ⟨hi, he⟩ hk
  simp only [go_sem]
  intro _
  first | refine branch_ndec (fun h6 => ?_) (fun h6 => ?_) | refine branch_dec (fun h6 => ?_) (fun h6 => ?_) | refine branch_nbool (fun h6 => ?_) (fun h6 => ?_) | refine branch_split (fun h6 => ?_) (fun h6 => ?_)
  rotate_left
  ·have hie : i = r.blocks.length := by omega
   have hany := any_none (fun j hj => he j (by omega))
   have hnew : r.new b := ⟨c2, c4, by omega, hany⟩
   rw [Rpl.tkB_yes hnew] at hT hU
   have hw1 := hw.addB hnew
   obtain ⟨B, hB⟩ : ∃ B, B = r.blocks ++ [b] := ⟨_, rfl⟩
   rw [<- hB] at hw1
   have hBm : List.map (Blk.enc true) r.blocks ++ [AVal.agg [.lit (.int .i64 b.view), .lit (.int .i64 b.parent), .agg [.lit (.int .i64 b.proof.view), .lit (.int .i64 b.proof.name), .lst true 1 (b.proof.bys.map intA), .lst true 1 (b.proof.tags.map intA)], .lst true 1 (b.moves.map strA), .lit (.int .i64 b.bY)]] = List.map (Blk.enc true) B := by
    rw [hB, List.map_append]
    rfl
   obtain ⟨P, hP⟩ : ∃ P : Rpl, P = ({ r with blocks := B } : Rpl).tkP b.proof := ⟨_, rfl⟩
   have hPk := Rpl.tkP_keeps ({ r with blocks := B } : Rpl) b.proof
   have hPw := hw1.tkP b.proof
   rw [<- hP] at hPk hPw
   have hT0 : r.tkB0 b = { P with view := maxI P.view b.view } := by rw [hP, hB]; rfl
   rw [hT0] at hT hU
   obtain ⟨k1, k2, k3, k4, k5, k6, k7⟩ := hPk
   simp only at k1 k2 k3
   rw [<- k2] at hn hn0
   rw [<- k2, <- k3] at hT hU
   have hcast : r.cast b = ⟨b.view, b.nm, P.id, tagV P.id (balB b.view b.nm)⟩ := by rw [k3]; rfl
   rw [hcast] at hT hU
   have hw3 : ({ P with view := maxI P.view b.view, voted := b.view } : Rpl).wf := ⟨hPw.sv, hPw.bl, hPw.bk, hPw.ap, hPw.kn, hPw.dl, hPw.vl, hPw.nl, hPw.hs⟩
   have w1 : IntKind.i64.wrap (b.view + 1) = b.view + 1 := wrap64 (by omega) (by omega)
   simp only [go_sem]
   refine draw_mk (L := ?La) ?h1a ?h2a
   case h1a =>
    simp only [go_sem]
    repeat' refine And.intro ?_ ?_
    all_goals
     refine call_lend ?_
     simp only [go_sem]
     refine callN.eq (ok104 b (by omega)) (by simp only [go_sem]) ?_
     simp only [go_sem]
     repeat' refine And.intro ?_ ?_
     all_goals first | omega | skip
     all_goals rw [hBm]
     all_goals try first | with_reducible exact rfl | exact mkE_perm (by kernel_rfl)
   case h2a =>
    simp only [go_sem]
    refine call_mut 0 0 rfl rfl rfl (by simp only [go_sem]) ?_
    simp only [go_sem, List.set]
    refine callM.eq (ok72 { r with blocks := B } hw1 b.proof) ?_
    simp only [go_sem]
    rw [<- hP]
    refine draw_mk (L := ?Lb) ?h1b ?h2b
    case h1b =>
     simp only [go_sem]
     repeat' refine And.intro ?_ ?_
     all_goals
      refine call_lend ?_
      simp only [go_sem]
      refine callN.eq (okM100 P.view b.view) (by simp only [go_sem]) ?_
      simp only [go_sem]
      try first | with_reducible exact rfl | exact mkE_perm (by kernel_rfl)
    case h2b =>
     simp only [go_sem]
     by_cases v1 : b.view <= P.voted
     ·rw [if_pos (.inl (by simp only; omega))] at hT hU
      simp only at hT hU
      simp only [go_sem, eq_true v1]
      subst hT hU
      try trivial
     simp only [go_sem, v1]
     by_cases v2 : b.proof.view < P.locked
     ·rw [if_pos (.inr (by simp only; omega))] at hT hU
      simp only at hT hU
      simp only [go_sem, eq_true v2]
      subst hT hU
      try trivial
     rw [if_neg (by simp only; omega)] at hT hU
     simp only [go_sem, v2]
     refine draw_mk (L := ?Lc) ?h1c ?h2c
     case h1c =>
      simp only [go_sem]
      repeat' refine And.intro ?_ ?_
      all_goals
       refine call_lend ?_
       simp only [go_sem]
       refine callN.eq (ok103 P.id b.view b.nm) (by simp only [go_sem]) ?_
       simp only [go_sem]
       try repeat' refine And.intro ?_ ?_
       all_goals try first | with_reducible exact rfl | exact mkE_perm (by kernel_rfl)
     case h2c =>
      simp only [go_sem, hn0, w1]
      by_cases d : (b.view + 1).tmod P.n = P.id
      ·rw [if_pos d] at hT hU
       simp only at hT hU
       simp only [go_sem, eq_true d]
       refine call_mut 0 0 rfl rfl rfl (by simp only [go_sem]) ?_
       simp only [go_sem, List.set]
       refine callM.eq (ok71 { P with view := maxI P.view b.view, voted := b.view } hw3 ⟨b.view, b.nm, P.id, tagV P.id (balB b.view b.nm)⟩) ?_
       simp only [go_sem]
       rw [hT, hU]
       try trivial
      ·rw [if_neg d] at hT hU
       simp only at hT hU
       simp only [go_sem, d]
       rw [hT, hU]
       refine ⟨rfl, ?_⟩
       simp only [and_self]
  have hlt : i < r.blocks.length := by omega
  have h0 : (0 : Int) <= (i : Int) := by omega
  have hw3 : IntKind.i64.wrap ((i : Int) + 1) = ((i + 1 : Nat) : Int) := by rw [wrap64 (by omega) (by omega)]; omega
  have hgi := blk_get (o := true) hlt
  simp only [go_sem, h0, hlt, h6]
  refine call_lend ?_
  simp only [go_sem, hgi]
  refine callN.eq (ok65 (r.blocks.getD i default)) (by simp only [go_sem, hgi]) ?_
  simp only [go_sem, hgi]
  by_cases h7 : (r.blocks.getD i default).nm = b.nm
  ·have e7 : nmB2 b.nm (r.blocks.getD i default) = true := decide_eq_true h7
   have hany : r.blocks.any (nmB2 b.nm) = true := List.any_eq_true.2 ⟨_, getD_mem hlt, e7⟩
   rw [Rpl.tkB_no (fun h => by have := h.2.2.2; rw [hany] at this; cases this)] at hT hU
   simp only at hT hU
   simp only [go_sem, eq_true h7]
   subst hT hU
   try trivial
  ·have e7 : nmB2 b.nm (r.blocks.getD i default) = false := decide_eq_false h7
   simp only [go_sem, h7, hw3]
   refine again_intro (i + 1) ⟨by omega, nxH he e7⟩ (by omega) ?_
   simp only [go_sem]
   try trivial
end Go.VS
