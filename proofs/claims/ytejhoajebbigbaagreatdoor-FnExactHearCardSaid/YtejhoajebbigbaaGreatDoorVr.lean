/- VS: functions by the machine. -/
import Derived.Test.YtejhoajebbigbaaGreatDoorVq
set_option linter.unusedSimpArgs false
set_option linter.unusedVariables false
open Go.Proofs
set_option maxRecDepth 20000
namespace Go.VS
theorem f125_at : gz.P.funcs[125]? = some Tryz.f125 := by
 have h : Tryz.prog.funcs[125]? = some Tryz.f125 := by kernel_rfl
 exact h
set_option maxHeartbeats 4000000 in
theorem ok125 (r : Rpl) (out : List Msg) (hw : r.wf) (hid : 0 <= r.id /\ r.id <= 6) (ho : out.length <= 1000) (b : Blk) : VCalls gz 125 [.ptr true ((r.wk out).enc true), b.enc false] (some 0) (fun y x' => y = .tup [] /\ x' = ((r.tkB b).1.wk (out ++ (r.tkB b).2)).enc true) := by
 obtain ⟨T, hT⟩ : ∃ T, T = (r.tkB b).1 := ⟨_, rfl⟩
 obtain ⟨U, hU⟩ : ∃ U, U = out ++ (r.tkB b).2 := ⟨_, rfl⟩
 rw [<- hT, <- hU]
 have hbl := hw.bl
 have hn := srv_rng hw.sv
 have hn0 : ¬ r.n = 0 := by omega
 refine VCalls.go (nt := 129) (keep := [0, 1, 3, 4, 21, 43, 101]) (muts := [0]) (mvs := []) [(1, .tree true (.take 0 (.take 1 (.take 2 (.take 3 (.take 4 (.take 5 (.take 6 (.take 7 (.take 8 (.take 9 (.take 10 (.take 11 (.take 12 (.take 13 (.all (.cons 14 (.take 15 (.take 16 .done)) .nil))))))))))))))))), (3, .tree true (.take 0 (.take 1 (.take 2 (.take 3 (.take 4 (.all (.cons 5 (.take 6 (.take 7 (.take 8 (.take 9 (.take 10 (.take 11 (.take 12 (.take 13 (.take 14 (.take 15 (.take 16 (.all (.cons 17 (.take 18 (.take 19 .done)) .nil))))))))))))) .nil)))))))), (4, .ex false (.take 0 (.take 1 (.take 2 (.take 3 (.take 4 (.all (.cons 5 (.all (.cons 6 (.all (.cons 7 (.all (.cons 8 (.all (.cons 9 (.take 10 (.take 11 (.take 12 (.all (.cons 13 .done .nil))))) .nil)) .nil)) .nil)) .nil)) (.cons 6 (.all (.cons 5 (.all (.cons 7 (.all (.cons 8 (.all (.cons 9 (.take 10 (.take 11 (.take 12 (.all (.cons 13 .done .nil))))) .nil)) .nil)) .nil)) (.cons 7 (.all (.cons 5 (.all (.cons 8 (.all (.cons 9 (.take 10 (.take 11 (.take 12 (.all (.cons 13 .done .nil))))) .nil)) .nil)) (.cons 8 (.all (.cons 5 (.all (.cons 9 (.take 10 (.take 11 (.take 12 (.all (.cons 13 .done .nil))))) .nil)) .nil)) .nil))) .nil))) .nil))))))))), (7, .ex false (.take 0 (.take 1 (.take 2 (.take 3 (.take 4 (.take 6 (.all (.cons 5 (.all (.cons 7 (.take 8 (.take 9 (.take 10 (.take 11 (.all (.cons 12 .done .nil)))))) .nil)) (.cons 7 (.all (.cons 5 (.take 8 (.take 9 (.take 10 (.take 11 (.all (.cons 12 .done .nil)))))) .nil)) .nil)))))))))), (8, .chain true [0, 1, 2, 3, 4, 5, 6, 7, 8, 9, 10, 11, 12, 13, 14, 15, 16, 17, 18]), (10, .tree false (.take 0 (.take 1 (.take 4 (.take 5 (.take 6 (.take 7 (.take 10 (.take 11 (.take 12 (.take 13 (.take 15 (.take 17 (.all (.cons 2 (.take 3 (.all (.cons 8 (.take 9 (.all (.cons 14 (.all (.cons 16 (.all (.cons 18 (.all (.cons 19 (.all (.cons 20 .done .nil)) .nil)) .nil)) .nil)) (.cons 16 (.all (.cons 14 (.all (.cons 18 (.all (.cons 19 (.all (.cons 20 .done .nil)) .nil)) .nil)) .nil)) .nil)))) (.cons 14 (.all (.cons 8 (.take 9 (.all (.cons 16 (.all (.cons 18 (.all (.cons 19 (.all (.cons 20 .done .nil)) .nil)) .nil)) .nil))) (.cons 16 (.all (.cons 8 (.take 9 (.all (.cons 18 (.all (.cons 19 (.all (.cons 20 .done .nil)) .nil)) .nil))) (.cons 18 (.all (.cons 8 (.take 9 (.all (.cons 19 (.all (.cons 20 .done .nil)) .nil))) .nil)) .nil))) .nil))) (.cons 16 (.all (.cons 8 (.take 9 (.all (.cons 14 (.all (.cons 18 (.all (.cons 19 (.all (.cons 20 .done .nil)) .nil)) .nil)) .nil))) (.cons 14 (.all (.cons 8 (.take 9 (.all (.cons 18 (.all (.cons 19 (.all (.cons 20 .done .nil)) .nil)) .nil))) (.cons 18 (.all (.cons 8 (.take 9 (.all (.cons 19 (.all (.cons 20 .done .nil)) .nil))) .nil)) .nil))) .nil))) .nil))))) (.cons 8 (.all (.cons 2 (.take 3 (.take 9 (.all (.cons 14 (.all (.cons 16 (.all (.cons 18 (.all (.cons 19 (.all (.cons 20 .done .nil)) .nil)) .nil)) .nil)) (.cons 16 (.all (.cons 14 (.all (.cons 18 (.all (.cons 19 (.all (.cons 20 .done .nil)) .nil)) .nil)) .nil)) .nil))))) (.cons 14 (.all (.cons 2 (.take 3 (.take 9 (.all (.cons 16 (.all (.cons 18 (.all (.cons 19 (.all (.cons 20 .done .nil)) .nil)) .nil)) .nil)))) (.cons 16 (.all (.cons 2 (.take 3 (.take 9 (.all (.cons 18 (.all (.cons 19 (.all (.cons 20 .done .nil)) .nil)) .nil)))) (.cons 18 (.all (.cons 2 (.take 3 (.take 9 (.all (.cons 19 (.all (.cons 20 .done .nil)) .nil)))) .nil)) .nil))) .nil))) (.cons 16 (.all (.cons 2 (.take 3 (.take 9 (.all (.cons 14 (.all (.cons 18 (.all (.cons 19 (.all (.cons 20 .done .nil)) .nil)) .nil)) .nil)))) (.cons 14 (.all (.cons 2 (.take 3 (.take 9 (.all (.cons 18 (.all (.cons 19 (.all (.cons 20 .done .nil)) .nil)) .nil)))) (.cons 18 (.all (.cons 2 (.take 3 (.take 9 (.all (.cons 19 (.all (.cons 20 .done .nil)) .nil)))) .nil)) .nil))) .nil))) .nil)))) (.cons 14 (.all (.cons 2 (.take 3 (.all (.cons 8 (.take 9 (.all (.cons 16 (.all (.cons 18 (.all (.cons 19 (.all (.cons 20 .done .nil)) .nil)) .nil)) .nil))) (.cons 16 (.all (.cons 8 (.take 9 (.all (.cons 18 (.all (.cons 19 (.all (.cons 20 .done .nil)) .nil)) .nil))) (.cons 18 (.all (.cons 8 (.take 9 (.all (.cons 19 (.all (.cons 20 .done .nil)) .nil))) .nil)) .nil))) .nil)))) (.cons 8 (.all (.cons 2 (.take 3 (.take 9 (.all (.cons 16 (.all (.cons 18 (.all (.cons 19 (.all (.cons 20 .done .nil)) .nil)) .nil)) .nil)))) (.cons 16 (.all (.cons 2 (.take 3 (.take 9 (.all (.cons 18 (.all (.cons 19 (.all (.cons 20 .done .nil)) .nil)) .nil)))) (.cons 18 (.all (.cons 2 (.take 3 (.take 9 (.all (.cons 19 (.all (.cons 20 .done .nil)) .nil)))) .nil)) .nil))) .nil))) (.cons 16 (.all (.cons 2 (.take 3 (.all (.cons 8 (.take 9 (.all (.cons 18 (.all (.cons 19 (.all (.cons 20 .done .nil)) .nil)) .nil))) (.cons 18 (.all (.cons 8 (.take 9 (.all (.cons 19 (.all (.cons 20 .done .nil)) .nil))) .nil)) .nil)))) (.cons 8 (.all (.cons 2 (.take 3 (.take 9 (.all (.cons 18 (.all (.cons 19 (.all (.cons 20 .done .nil)) .nil)) .nil)))) (.cons 18 (.all (.cons 2 (.take 3 (.take 9 (.all (.cons 19 (.all (.cons 20 .done .nil)) .nil)))) .nil)) .nil))) (.cons 18 (.all (.cons 2 (.take 3 (.all (.cons 8 (.take 9 (.all (.cons 19 (.all (.cons 20 .done .nil)) .nil))) .nil))) (.cons 8 (.all (.cons 2 (.take 3 (.take 9 (.all (.cons 19 (.all (.cons 20 .done .nil)) .nil)))) .nil)) .nil))) .nil)))) .nil)))) (.cons 16 (.all (.cons 2 (.take 3 (.all (.cons 8 (.take 9 (.all (.cons 14 (.all (.cons 18 (.all (.cons 19 (.all (.cons 20 .done .nil)) .nil)) .nil)) .nil))) (.cons 14 (.all (.cons 8 (.take 9 (.all (.cons 18 (.all (.cons 19 (.all (.cons 20 .done .nil)) .nil)) .nil))) (.cons 18 (.all (.cons 8 (.take 9 (.all (.cons 19 (.all (.cons 20 .done .nil)) .nil))) .nil)) .nil))) .nil)))) (.cons 8 (.all (.cons 2 (.take 3 (.take 9 (.all (.cons 14 (.all (.cons 18 (.all (.cons 19 (.all (.cons 20 .done .nil)) .nil)) .nil)) .nil)))) (.cons 14 (.all (.cons 2 (.take 3 (.take 9 (.all (.cons 18 (.all (.cons 19 (.all (.cons 20 .done .nil)) .nil)) .nil)))) (.cons 18 (.all (.cons 2 (.take 3 (.take 9 (.all (.cons 19 (.all (.cons 20 .done .nil)) .nil)))) .nil)) .nil))) .nil))) (.cons 14 (.all (.cons 2 (.take 3 (.all (.cons 8 (.take 9 (.all (.cons 18 (.all (.cons 19 (.all (.cons 20 .done .nil)) .nil)) .nil))) (.cons 18 (.all (.cons 8 (.take 9 (.all (.cons 19 (.all (.cons 20 .done .nil)) .nil))) .nil)) .nil)))) (.cons 8 (.all (.cons 2 (.take 3 (.take 9 (.all (.cons 18 (.all (.cons 19 (.all (.cons 20 .done .nil)) .nil)) .nil)))) (.cons 18 (.all (.cons 2 (.take 3 (.take 9 (.all (.cons 19 (.all (.cons 20 .done .nil)) .nil)))) .nil)) .nil))) (.cons 18 (.all (.cons 2 (.take 3 (.all (.cons 8 (.take 9 (.all (.cons 19 (.all (.cons 20 .done .nil)) .nil))) .nil))) (.cons 8 (.all (.cons 2 (.take 3 (.take 9 (.all (.cons 19 (.all (.cons 20 .done .nil)) .nil)))) .nil)) .nil))) .nil)))) .nil)))) .nil))))))))))))))))))] f125_at rfl (by kernel_rfl) rfl (by kernel_rfl) rfl (fun i h => by cases h; exact ⟨rfl, by simp⟩) rfl ?_
 intro hok
 simp only [go_sem] at hok
 simp only [Tryz.f125, Func.code, Option.getD_some]
 simp only [go_sem]
 intro _
 by_cases c1 : (r.blocks.length : Int) = 60
 ·rw [Rpl.tkB_no (fun h => by have := h.2.2.1; omega)] at hT hU
  simp only [List.append_nil] at hT hU
  subst hT hU
  simp only [go_sem, eq_true c1]
  try trivial
 simp only [go_sem, c1]
 refine call_lend ?_
 simp only [go_sem]
 refine callN.eq (ok109 b r.n) (by simp only [go_sem]) ?_
 simp only [go_sem]
 cases c2 : b.ok r.n
 ·rw [Rpl.tkB_no (fun h => by have := h.1; rw [c2] at this; cases this)] at hT hU
  simp only [List.append_nil] at hT hU
  subst hT hU
  simp only [go_sem]
  try trivial
 have hN := ok90 b
 have hnm := Blk.nmI_eq c2
 unfold Blk.nmI at hnm
 rw [hnm] at hN
 have hnr := Blk.nm_rng b
 have hsz := Blk.ok_sz c2
 have hbv := (Blk.ok_of c2).2.1
 simp only [go_sem]
 refine call_lend ?_
 simp only [go_sem]
 refine callN.eq (hN) (by simp only [go_sem]) ?_
 simp only [go_sem]
 have n1 : ¬ b.nm < 0 := by omega
 simp only [go_sem, n1]
 refine call_lend ?_
 simp only [go_sem]
 refine callN.eq (ok110 (r.wk out) b.nm) (by simp only [go_sem]) ?_
 simp only [go_sem]
 have hfa := hw.fnd_any b.nm
 by_cases c3 : 0 <= idxOf (isI b.nm) (r.blocks.map Blk.nmI)
 ·have hany := hfa.1 c3
  rw [Rpl.tkB_no (fun h => by have := h.2.2.2; rw [hany] at this; cases this)] at hT hU
  simp only [List.append_nil] at hT hU
  subst hT hU
  simp only [go_sem, eq_true c3]
  try trivial
 simp only [go_sem, c3]
 intro _
 refine call_lend ?_
 simp only [go_sem]
 refine callN.eq (ok111 (r.wk out) (Rpl.wk_len r out) b r.blocks.length) (by simp only [go_sem]) ?_
 simp only [go_sem]
 rw [hw.knw_new c2 out]
 cases c4 : knwB r.blocks b.proof
 ·rw [Rpl.tkB_no (fun h => by have := h.2.1; rw [c4] at this; cases this)] at hT hU
  simp only [List.append_nil] at hT hU
  subst hT hU
  simp only [go_sem]
  try trivial
 have hnew : r.new b := ⟨c2, c4, by omega, by
  cases h : r.blocks.any (nmB2 b.nm)
  ·rfl
  ·exact absurd (hfa.2 h) c3⟩
 rw [Rpl.tkB_yes hnew] at hT hU
 have hw1 := hw.addB hnew
 obtain ⟨B, hB⟩ : ∃ B, B = r.blocks ++ [b] := ⟨_, rfl⟩
 rw [<- hB] at hw1
 have hBm : List.map (Blk.enc true) r.blocks ++ [AVal.agg [.lit (.int .i64 b.view), .lit (.int .i64 b.parent), .agg [.lit (.int .i64 b.proof.view), .lit (.int .i64 b.proof.name), .lst true 1 (b.proof.bys.map intA), .lst true 1 (b.proof.tags.map intA)], .lst true 1 (b.moves.map strA), .lit (.int .i64 b.bY)]] = List.map (Blk.enc true) B := by
  rw [hB, List.map_append]
  rfl
 have hNm : List.map intA (List.map Blk.nmI r.blocks) ++ [AVal.lit (.int .i64 b.nm)] = List.map intA (List.map Blk.nmI B) := by
  rw [hB, List.map_append, List.map_append, <- Blk.nmI_eq c2]
  rfl
 obtain ⟨P, hP⟩ : ∃ P : Rpl, P = ({ r with blocks := B } : Rpl).tkP b.proof := ⟨_, rfl⟩
 have hPk := Rpl.tkP_keeps ({ r with blocks := B } : Rpl) b.proof
 have hPw := hw1.tkP b.proof
 rw [<- hP] at hPk hPw
 have hT0 : r.tkB0 b = { P with view := maxI P.view b.view } := by rw [hP, hB]; rfl
 rw [hT0] at hT hU
 simp only [go_sem]
 refine draw_mk (L := ?La) ?h1a ?h2a
 case h1a =>
  simp only [go_sem]
  repeat' refine And.intro ?_ ?_
  all_goals
   refine call_lend ?_
   simp only [go_sem]
   refine callN.eq (ok119 b (by omega)) (by simp only [go_sem]) ?_
   simp only [go_sem]
   repeat' refine And.intro ?_ ?_
   all_goals first | omega | skip
   all_goals rw [hBm]
   all_goals try first | with_reducible exact rfl | exact mkE_perm (by kernel_rfl)
 case h2a =>
  simp only [go_sem]
  refine ⟨⟨by omega, by omega⟩, ?_⟩
  rw [hNm]
  have hNt : List.take (r.blocks.length + 1) (List.map Blk.nmI B) = List.map Blk.nmI B := List.take_of_length_le (by rw [List.length_map, hB]; simp)
  have hNu : List.take (r.blocks.length + 1) (List.map intA (List.map Blk.nmI B)) = List.map intA (List.map Blk.nmI B) := List.take_of_length_le (by rw [List.length_map, List.length_map, hB]; simp)
  simp only [go_sem, hNt, hNu]
  refine call_mut 0 0 rfl rfl rfl (by simp only [go_sem]) ?_
  simp only [go_sem, List.set]
  refine callM.eq (ok127 { r with blocks := B } out hw1 b.proof) ?_
  simp only [go_sem]
  rw [<- hP]
  refine draw_mk (L := ?Lb) ?h1b ?h2b
  case h1b =>
   simp only [go_sem]
   repeat' refine And.intro ?_ ?_
   all_goals try first | with_reducible exact rfl | exact mkE_perm (by kernel_rfl)
  case h2b =>
   obtain ⟨k1, k2, k3, k4, k5, k6, k7⟩ := hPk
   simp only at k1 k2 k3
   rw [<- k2] at hn hn0
   rw [<- k3] at hid
   rw [<- k2, <- k3] at hT hU
   have hcast : r.cast b = ⟨b.view, b.nm, P.id, tagV P.id (balB b.view b.nm)⟩ := by rw [k3]; rfl
   rw [hcast] at hT hU
   have hw2 : ({ P with view := maxI P.view b.view } : Rpl).wf := ⟨hPw.sv, hPw.bl, hPw.bk, hPw.ap, hPw.kn, hPw.dl, hPw.vl, hPw.nl, hPw.hs⟩
   have hw3 : ({ P with view := maxI P.view b.view, voted := b.view } : Rpl).wf := ⟨hPw.sv, hPw.bl, hPw.bk, hPw.ap, hPw.kn, hPw.dl, hPw.vl, hPw.nl, hPw.hs⟩
   simp only [go_sem]
   by_cases v1 : P.voted < b.view
   rotate_left
   ·rw [if_pos (.inl (by simp only; omega))] at hT hU
    simp only [List.append_nil] at hT hU
    subst hT hU
    simp only [go_sem, v1]
    try trivial
   simp only [go_sem, eq_true v1]
   by_cases v2 : P.locked <= b.proof.view
   rotate_left
   ·rw [if_pos (.inr (by simp only; omega))] at hT hU
    simp only [List.append_nil] at hT hU
    subst hT hU
    simp only [go_sem, v2]
    try trivial
   rw [if_neg (by simp only; omega)] at hT hU
   have w1 : IntKind.i64.wrap (b.view + 1) = b.view + 1 := wrap64 (by omega) (by omega)
   by_cases d : (b.view + 1).tmod P.n = P.id
   ·rw [if_pos d] at hT hU
    simp only [List.append_nil] at hT hU
    simp only [go_sem, eq_true v2, hn0, w1]
    repeat' refine And.intro ?_ ?_
    all_goals
     refine call_lend ?_
     simp only [go_sem]
     refine callN.eq (ok142 P.id b.view b.nm hid hbv (by omega)) (by simp only [go_sem]) ?_
     simp only [go_sem]
     try simp only [go_sem, hn0, w1]
     repeat' refine And.intro ?_ ?_
     all_goals
      refine call_mutL true 0 ⟨0,[]⟩ rfl rfl (by simp only [go_sem]; rfl) (by simp only [go_sem]) ?_
      simp only [go_sem, List.set]
      refine callM2.eq (okS141 { P with view := maxI P.view b.view, voted := b.view } out hw3 ⟨2, 0, (b.view + 1).tmod P.n, 0, zBlk, ⟨b.view, b.nm, P.id, tagV P.id (balB b.view b.nm)⟩, zPrf⟩ rfl d) (by simp only [go_sem]) ?_
      simp only [go_sem]
      rw [hT, hU]
      try trivial
   ·rw [if_neg d] at hT hU
    simp only at hT hU
    simp only [go_sem, eq_true v2, hn0, w1]
    repeat' refine And.intro ?_ ?_
    all_goals
     refine call_lend ?_
     simp only [go_sem]
     refine callN.eq (ok142 P.id b.view b.nm hid hbv (by omega)) (by simp only [go_sem]) ?_
     simp only [go_sem]
     try simp only [go_sem, hn0, w1]
     repeat' refine And.intro ?_ ?_
     all_goals
      refine call_mutL true 0 ⟨0,[]⟩ rfl rfl (by simp only [go_sem]; rfl) (by simp only [go_sem]) ?_
      simp only [go_sem, List.set]
      refine callM2.eq (okO141 { P with view := maxI P.view b.view, voted := b.view } out ⟨2, 0, (b.view + 1).tmod P.n, 0, zBlk, ⟨b.view, b.nm, P.id, tagV P.id (balB b.view b.nm)⟩, zPrf⟩ (msgV_sz _ _) ho d) (by simp only [go_sem]) ?_
      simp only [go_sem]
      rw [hT, hU]
      first
       | trivial
       | (simp only [Msg.stamp, and_self, true_and, List.map_append]; done)
       | (simp only [Msg.stamp, and_self, true_and, List.map_append]; rfl)
       | (simp only [Msg.stamp, and_self, true_and, List.map_append]; simp only [List.map_cons, List.map_nil, Msg.enc, Blk.enc, Prf.enc, Vot.enc])
end Go.VS
