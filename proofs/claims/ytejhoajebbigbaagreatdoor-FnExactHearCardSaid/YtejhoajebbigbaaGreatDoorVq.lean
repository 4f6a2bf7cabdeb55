/- VS: functions by the machine. -/
import Derived.Test.YtejhoajebbigbaaGreatDoorVp
import Derived.Test.YtejhoajebbigbaaGreatDoorVf
import Derived.Test.YtejhoajebbigbaaGreatDoorVg
set_option linter.unusedSimpArgs false
set_option linter.unusedVariables false
open Go.Proofs
set_option maxRecDepth 20000
namespace Go.VS
theorem f142_at : gz.P.funcs[142]? = some Tryz.f142 := by
 have h : Tryz.prog.funcs[142]? = some Tryz.f142 := by kernel_rfl
 exact h
theorem f155_at : gz.P.funcs[155]? = some Tryz.f155 := by
 have h : Tryz.prog.funcs[155]? = some Tryz.f155 := by kernel_rfl
 exact h
theorem f91_at : gz.P.funcs[91]? = some Tryz.f91 := by
 have h : Tryz.prog.funcs[91]? = some Tryz.f91 := by kernel_rfl
 exact h
theorem f141_at : gz.P.funcs[141]? = some Tryz.f141 := by
 have h : Tryz.prog.funcs[141]? = some Tryz.f141 := by kernel_rfl
 exact h
theorem ok142 (s v m : Int) (hs : 0 <= s /\ s <= 6) (hv : 1 <= v /\ v <= 100000) (hm : 0 <= m /\ m <= 2147483646) : VCalls gz 142 [.lit (.int .i64 s), .lit (.int .i64 v), .lit (.int .i64 m)] none (fun y _ => y = (Vot.mk v m s (tagV s (balB v m))).enc) := by
 refine VCalls.go (nt := 30) (keep := [0, 1, 2, 6, 19]) (muts := []) (mvs := []) [] f142_at rfl (by kernel_rfl) rfl (by kernel_rfl) rfl (fun i h => by cases h) rfl ?_
 intro hok
 simp only [go_sem] at hok
 simp only [Tryz.f142, Func.code, Option.getD_some]
 simp only [go_sem]
 refine call_lend ?_
 simp only [go_sem]
 refine callN.eq (ok152 s) (by simp only [go_sem]) ?_
 simp only [go_sem]
 simp only [go_sem, eq_true hs]
 refine call_lend ?_
 simp only [go_sem]
 refine callN.eq (ok78 v) (by simp only [go_sem]) ?_
 simp only [go_sem]
 simp only [go_sem, eq_true hv]
 refine call_lend ?_
 simp only [go_sem]
 refine callN.eq (ok113 m) (by simp only [go_sem]) ?_
 simp only [go_sem]
 simp only [go_sem, eq_true hm]
 refine call_lend ?_
 simp only [go_sem]
 refine callN.eq (ok115 v m) (by simp only [go_sem]) ?_
 simp only [go_sem]
 have hb := balB_size v m ⟨by omega, by omega⟩ ⟨by omega, by omega⟩
 refine call_lend ?_
 simp only [go_sem]
 refine callN.eq (ok136 s (balB v m) (by omega)) (by simp only [go_sem]) ?_
 simp only [go_sem]
 rw [if_pos hs]
 try trivial
theorem ok155 (m : Msg) (hm : m.sz <= 1048576) : VCalls gz 155 [m.enc false] none (fun y _ => y = m.enc true) := by
 have hz : m.sz = m.block.sz + m.proof.sz := rfl
 refine VCalls.go (nt := 12) (keep := [0, 1, 2]) (muts := []) (mvs := [2]) [(1, .tree false (.take 0 (.take 3 (.all (.cons 1 (.all (.cons 2 (.all (.cons 4 (.take 6 (.all (.cons 5 (.all (.cons 7 (.take 8 (.all (.cons 9 .done .nil))) .nil)) .nil))) .nil)) (.cons 4 (.all (.cons 2 (.take 6 (.all (.cons 5 (.all (.cons 7 (.take 8 (.all (.cons 9 .done .nil))) .nil)) .nil))) .nil)) .nil))) (.cons 4 (.all (.cons 1 (.all (.cons 2 (.take 6 (.all (.cons 5 (.all (.cons 7 (.take 8 (.all (.cons 9 .done .nil))) .nil)) .nil))) .nil)) .nil)) .nil))))))] f155_at rfl (by kernel_rfl) rfl (by kernel_rfl) rfl (fun i h => by cases h) rfl ?_
 intro hok
 simp only [go_sem] at hok
 simp only [Tryz.f155, Func.code, Option.getD_some]
 simp only [go_sem]
 repeat' refine And.intro ?_ ?_
 all_goals
  refine call_lend ?_
  simp only [go_sem]
  refine callN.eq (ok119 m.block (by omega)) (by simp only [go_sem]) ?_
  simp only [go_sem]
  repeat' refine And.intro ?_ ?_
  all_goals
   refine call_lend ?_
   simp only [go_sem]
   refine callN.eq (ok117 m.proof (by omega)) (by simp only [go_sem]) ?_
   simp only [go_sem]
   try trivial
theorem okV91 (r : Rpl) (out : List Msg) (hw : r.wf) (m : Msg) (hk : m.kind = 2) : VCalls gz 91 [.ptr true ((r.wk out).enc true), m.enc false] (some 0) (fun y x' => y = .tup [] /\ x' = ((r.tkV m.vote).wk out).enc true) := by
 obtain ⟨T, hT⟩ : ∃ T, T = r.tkV m.vote := ⟨_, rfl⟩
 rw [<- hT]
 refine VCalls.go (nt := 31) (keep := [0, 1, 3, 5, 6, 12, 18]) (muts := [0]) (mvs := []) [] f91_at rfl (by kernel_rfl) rfl (by kernel_rfl) rfl (fun i h => by cases h; exact ⟨rfl, by simp⟩) rfl ?_
 intro hok
 simp only [go_sem] at hok
 simp only [Tryz.f91, Func.code, Option.getD_some]
 simp only [go_sem]
 simp only [go_sem, hk]
 refine call_mut 0 0 rfl rfl rfl (by simp only [go_sem]) ?_
 simp only [go_sem, List.set]
 refine callM.eq (ok126 r out hw m.vote) ?_
 simp only [go_sem]
 subst hT
 try trivial
def Msg.stamp (m : Msg) (s : Int) : Msg := { m with src := s }
set_option maxHeartbeats 1000000 in
theorem okO141 (r : Rpl) (out : List Msg) (m : Msg) (hm : m.sz <= 1048576) (ho : out.length <= 1000) (hd : ¬ m.dst = r.id) : VCalls gz 141 [.ptr true ((r.wk out).enc true), m.enc false] (some 0) (fun y x' => y = .tup [] /\ x' = (r.wk (out ++ [m.stamp r.id])).enc true) := by
 have hz : (m.stamp r.id).sz <= 1048576 := hm
 obtain ⟨O, hO⟩ : ∃ O, O = out ++ [m.stamp r.id] := ⟨_, rfl⟩
 rw [<- hO]
 refine VCalls.go (nt := 32) (keep := [0, 1, 3, 17]) (muts := [0]) (mvs := []) [(2, .chain true [0, 1, 2, 3, 4, 5, 6, 7]), (4, .tree false (.take 0 (.take 1 (.take 2 (.take 3 (.all (.cons 4 (.all (.cons 5 (.all (.cons 6 (.all (.cons 7 (.all (.cons 8 (.take 9 (.take 10 (.all (.cons 11 .done .nil)))) .nil)) .nil)) .nil)) .nil)) (.cons 5 (.all (.cons 4 (.all (.cons 6 (.all (.cons 7 (.all (.cons 8 (.take 9 (.take 10 (.all (.cons 11 .done .nil)))) .nil)) .nil)) .nil)) (.cons 6 (.all (.cons 4 (.all (.cons 7 (.all (.cons 8 (.take 9 (.take 10 (.all (.cons 11 .done .nil)))) .nil)) .nil)) (.cons 7 (.all (.cons 4 (.all (.cons 8 (.take 9 (.take 10 (.all (.cons 11 .done .nil)))) .nil)) .nil)) .nil))) .nil))) .nil))))))))] f141_at rfl (by kernel_rfl) rfl (by kernel_rfl) rfl (fun i h => by cases h; exact ⟨rfl, by simp⟩) rfl ?_
 intro hok
 simp only [go_sem] at hok
 simp only [Tryz.f141, Func.code, Option.getD_some]
 simp only [go_sem]
 simp only [go_sem, hd]
 repeat' refine And.intro ?_ ?_
 all_goals
  refine call_lend ?_
  simp only [go_sem]
  refine callN.eq (ok155 (m.stamp r.id) hz) (by simp only [go_sem]) ?_
  simp only [go_sem]
  repeat' refine And.intro ?_ ?_
  all_goals first | omega | (subst hO; simp only [List.map_append, List.map_cons, List.map_nil, Msg.enc_eq, Blk.enc_eq, Prf.enc_eq, Vot.enc_eq, Msg.stamp, and_self]) | trace_state
theorem okS141 (r : Rpl) (out : List Msg) (hw : r.wf) (m : Msg) (hk : m.kind = 2) (hd : m.dst = r.id) : VCalls gz 141 [.ptr true ((r.wk out).enc true), m.enc false] (some 0) (fun y x' => y = .tup [] /\ x' = ((r.tkV m.vote).wk out).enc true) := by
 obtain ⟨T, hT⟩ : ∃ T, T = r.tkV m.vote := ⟨_, rfl⟩
 rw [<- hT]
 refine VCalls.go (nt := 32) (keep := [0, 1, 3, 17]) (muts := [0]) (mvs := []) [(2, .chain true [0, 1, 2, 3, 4, 5, 6, 7]), (4, .tree false (.take 0 (.take 1 (.take 2 (.take 3 (.all (.cons 4 (.all (.cons 5 (.all (.cons 6 (.all (.cons 7 (.all (.cons 8 (.take 9 (.take 10 (.all (.cons 11 .done .nil)))) .nil)) .nil)) .nil)) .nil)) (.cons 5 (.all (.cons 4 (.all (.cons 6 (.all (.cons 7 (.all (.cons 8 (.take 9 (.take 10 (.all (.cons 11 .done .nil)))) .nil)) .nil)) .nil)) (.cons 6 (.all (.cons 4 (.all (.cons 7 (.all (.cons 8 (.take 9 (.take 10 (.all (.cons 11 .done .nil)))) .nil)) .nil)) (.cons 7 (.all (.cons 4 (.all (.cons 8 (.take 9 (.take 10 (.all (.cons 11 .done .nil)))) .nil)) .nil)) .nil))) .nil))) .nil))))))))] f141_at rfl (by kernel_rfl) rfl (by kernel_rfl) rfl (fun i h => by cases h; exact ⟨rfl, by simp⟩) rfl ?_
 intro hok
 simp only [go_sem] at hok
 simp only [Tryz.f141, Func.code, Option.getD_some]
 simp only [go_sem]
 simp only [go_sem, eq_true hd]
 refine call_mut 0 0 rfl rfl rfl (by simp only [go_sem]) ?_
 simp only [go_sem, List.set]
 refine callM.eq (okV91 r out hw (m.stamp r.id) hk) ?_
 simp only [go_sem]
 have hT2 : T = r.tkV (m.stamp r.id).vote := hT
 subst hT2
 try trivial
end Go.VS
set_option linter.unusedSimpArgs false
set_option linter.unusedVariables false
open Go.Proofs
set_option maxRecDepth 20000
namespace Go.VS
theorem f123_at : gz.P.funcs[123]? = some Tryz.f123 := by
 have h : Tryz.prog.funcs[123]? = some Tryz.f123 := by kernel_rfl
 exact h
theorem f90_at : gz.P.funcs[90]? = some Tryz.f90 := by
 have h : Tryz.prog.funcs[90]? = some Tryz.f90 := by kernel_rfl
 exact h
set_option maxHeartbeats 4000000 in
theorem ok123 (b : Blk) : VCalls gz 123 [b.enc false] none (fun y _ => y = .lit (.string b.sh)) := by
 refine VCalls.go (nt := 106) (keep := [0, 1, 2, 3, 4, 5, 6, 7, 9, 11, 35, 53, 54, 55, 56, 76, 77, 78, 79, 84, 86, 87, 88, 89]) (muts := []) (mvs := [1076]) [] f123_at rfl (by kernel_rfl) rfl (by kernel_rfl) rfl (fun i h => by cases h) rfl ?_
 intro hok
 simp only [go_sem] at hok
 simp only [Tryz.f123, Func.code, Option.getD_some]
 simp only [go_sem]
 refine call_lend ?_
 simp only [go_sem]
 refine callN.eq (ok139 b.moves) (by simp only [go_sem]) ?_
 simp only [go_sem]
 intro hm hm2
 have htl := txs_len (l := b.moves)
 by_cases h2 : (b.proof.bys.length : Int) = (b.proof.tags.length : Int)
 rotate_left
 ·have : b.sh = ⟨#[]⟩ := Blk.sh_no fun h => by have := h.1.2; omega
  simp only [go_sem, h2, this]
 simp only [go_sem, eq_true h2]
 by_cases h1 : 7 < (b.proof.bys.length : Int)
 ·have : b.sh = ⟨#[]⟩ := Blk.sh_no fun h => by have := h.1.1; omega
  simp only [go_sem, h1, this]
 simp only [go_sem, h1]
 by_cases ht : ((txs b.moves).length : Int) = 0
 ·have : b.sh = ⟨#[]⟩ := Blk.sh_no fun h => h.2.2.1 (List.eq_nil_of_length_eq_zero (by omega))
  simp only [go_sem, eq_true ht, this]
 simp only [go_sem, ht]
 intro _ _ _ _
 have hl7 : b.proof.bys.length <= 7 := by omega
 have hl2 : b.proof.bys.length = b.proof.tags.length := by omega
 refine vm_loopK (α := Nat) (fun i => [(1, .ptr true (b.enc false)), (2, .lit (.string ⟨#[]⟩)), (3, .lst true 1 ((txs b.moves).map byteA)), (4, .lst true 1 ((shL b i).map intA)), (53, .lst false 1 (b.proof.bys.map intA)), (54, .lit (.int .i64 b.proof.bys.length)), (55, .lit (.int .i64 i))]) (fun i => i <= b.proof.bys.length) (fun i => b.proof.bys.length - i) 0 ?_ (by omega) (by kernel_rfl) (fun _ => rfl) ?_
 ·simp only [go_sem, shL_zero]
  try rfl
 ·intro i hi hk
  simp only [go_sem]
  first | refine branch_ndec (fun h6 => ?_) (fun h6 => ?_) | refine branch_dec (fun h6 => ?_) (fun h6 => ?_) | refine branch_nbool (fun h6 => ?_) (fun h6 => ?_) | refine branch_split (fun h6 => ?_) (fun h6 => ?_)
  ·have hlt : i < b.proof.bys.length := by omega
   have hlt2 : i < b.proof.tags.length := by omega
   have h0 : (0 : Int) <= (i : Int) := by omega
   have h6b : (i : Int) < (b.proof.tags.length : Int) := by omega
   have hw3 : IntKind.i64.wrap ((i : Int) + 1) = ((i + 1 : Nat) : Int) := by rw [wrap64 (by omega) (by omega)]; omega
   have hsl := shL_len (b := b) (i := i)
   simp only [go_sem, h0, hlt, h6, hlt2, h6b, hw3]
   refine ⟨by omega, ?_⟩
   refine again_intro (i + 1) (by omega) (by omega) ?_
   simp only [go_sem]
   rw [shL_succ, List.map_append]
   try rfl
  ·have hie : i = b.proof.bys.length := by omega
   subst hie
   simp only [go_sem]
   have hsl := shL_len (b := b) (i := b.proof.bys.length)
   obtain ⟨L, hL⟩ : ∃ L, L = shL b b.proof.bys.length := ⟨_, rfl⟩
   rw [<- hL] at hsl ⊢
   refine ⟨by omega, fun _ => ?_⟩
   obtain ⟨M, hM⟩ : ∃ M, M = L ++ [b.bY] := ⟨_, rfl⟩
   have hMl : M.length = L.length + 1 := by rw [hM]; simp
   have hMin : b.sh = ⟨#[]⟩ \/ (∀ x ∈ L, inR x) /\ inR b.bY := by
    by_cases hq : (∀ x ∈ L, inR x) /\ inR b.bY
    ·exact .inr hq
    ·exact .inl (Blk.sh_no fun h => hq ⟨by rw [hL]; exact h.2.1, h.2.2.2⟩)
   refine vm_loopK (α := Nat) (fun k => [(1, .ptr true (b.enc false)), (2, .lit (.string ⟨#[]⟩)), (3, .lst true 1 ((txs b.moves).map byteA)), (4, .lst false 1 (L.map intA)), (7, .lst true 1 []), (76, .lst false 1 (M.map intA)), (77, .lit (.int .i64 M.length)), (78, .lit (.int .i64 k))]) (fun k => k <= M.length /\ ∀ j, j < k -> inR (M.getD j default)) (fun k => M.length - k) 0 ?_ ⟨by omega, fun j hj => by omega⟩ (by kernel_rfl) (fun _ => rfl) ?_
   ·simp only [go_sem]
    rw [hM, hsl]
    simp only [List.map_append, List.map_cons, List.map_nil, intA_eq, List.length_append, List.length_cons, List.length_nil, hsl]
    exact ⟨trivial, trivial, rfl⟩
   ·rintro k ⟨hk2, hin⟩ hkk
    simp only [go_sem]
    first | refine branch_ndec (fun h8 => ?_) (fun h8 => ?_) | refine branch_dec (fun h8 => ?_) (fun h8 => ?_) | refine branch_nbool (fun h8 => ?_) (fun h8 => ?_) | refine branch_split (fun h8 => ?_) (fun h8 => ?_)
    ·have hlt : k < M.length := by omega
     have h0 : (0 : Int) <= (k : Int) := by omega
     have hw3 : IntKind.i64.wrap ((k : Int) + 1) = ((k + 1 : Nat) : Int) := by rw [wrap64 (by omega) (by omega)]; omega
     simp only [go_sem, h0, hlt, h8]
     refine call_lend ?_
     simp only [go_sem]
     refine callN.eq (ok77 (M.getD k default) 0 1099511627776) (by simp only [go_sem]) ?_
     simp only [go_sem]
     by_cases h9 : 0 <= M.getD k default /\ M.getD k default <= 1099511627776
     rotate_left
     ·have : b.sh = ⟨#[]⟩ := by
       rcases hMin with h | h
       ·exact h
       ·exfalso
        have hm := getD_mem hlt
        rw [hM] at hm h9
        rcases List.mem_append.1 hm with hm | hm
        ·exact h9 (h.1 _ hm)
        ·rw [List.mem_singleton.1 hm] at h9
         exact h9 h.2
      simp only [go_sem, eq_false h9, this]
     simp only [go_sem, eq_true h9, hw3]
     refine again_intro (k + 1) ⟨by omega, nx hin h9⟩ (by omega) ?_
     simp only [go_sem]
     try rfl
    ·have hall : ∀ x ∈ M, inR x := fun x hx => by
      obtain ⟨j, hj, rfl⟩ := List.mem_iff_getElem.1 hx
      rw [getElem_D hj]
      exact hin j (by omega)
     have hallL : ∀ x ∈ L, inR x := fun x hx => hall x (by rw [hM]; exact List.mem_append.2 (.inl hx))
     have hb : inR b.bY := hall _ (by rw [hM]; simp)
     simp only [go_sem]
     intro _
     refine vm_loopK (α := Nat) (fun k => [(1, .ptr true (b.enc false)), (3, .lst true 1 ((txs b.moves).map byteA)), (7, .lst true 1 ((nums (L.take k)).map byteA)), (86, .lst false 1 (L.map intA)), (87, .lit (.int .i64 L.length)), (88, .lit (.int .i64 k))]) (fun k => k <= L.length) (fun k => L.length - k) 0 ?_ (by omega) (by kernel_rfl) (fun _ => rfl) ?_
     ·simp only [go_sem]
      exact ⟨rfl, rfl⟩
     ·intro k hk3 hkk3
      simp only [go_sem]
      first | refine branch_ndec (fun h10 => ?_) (fun h10 => ?_) | refine branch_dec (fun h10 => ?_) (fun h10 => ?_) | refine branch_nbool (fun h10 => ?_) (fun h10 => ?_) | refine branch_split (fun h10 => ?_) (fun h10 => ?_)
      ·have hlt : k < L.length := by omega
       have h0 : (0 : Int) <= (k : Int) := by omega
       have hw3 : IntKind.i64.wrap ((k : Int) + 1) = ((k + 1 : Nat) : Int) := by rw [wrap64 (by omega) (by omega)]; omega
       have hr : inR (L.getD k default) := hallL _ (getD_mem hlt)
       obtain ⟨m, hmm⟩ := Int.eq_ofNat_of_zero_le hr.1
       have hm9 : m <= 1099511627776 := by have := hr.2; omega
       simp only [go_sem, h0, hlt, h10, hmm]
       refine call_lend ?_
       simp only [go_sem]
       refine callN.eq (ok140 m hm9) (by simp only [go_sem]) ?_
       simp only [go_sem]
       have hl9 := numB_len9 (n := m) (by omega)
       have hnl := nums_len (xs := L.take k) (fun x hx => hallL x (List.mem_of_mem_take hx))
       rw [List.length_take] at hnl
       refine ⟨by omega, ?_⟩
       rw [hw3]
       refine again_intro (k + 1) (by omega) (by omega) ?_
       simp only [go_sem]
       rw [take_succ_getD hlt, nums_app, List.map_append, hmm]
       have e : nums [(m : Int)] = numB m := by simp [nums]
       rw [e]
       try trivial
      ·have hke : k = L.length := by omega
       subst hke
       simp only [go_sem]
       have hsh : b.shOk := ⟨⟨hl7, hl2⟩, by rw [<- hL]; exact hallL, fun h => ht (by rw [h]; rfl), hb⟩
       have hnl := nums_len hallL
       obtain ⟨m, hmm⟩ := Int.eq_ofNat_of_zero_le hb.1
       have hm9 : m <= 1099511627776 := by have := hb.2; omega
       have hl9 := numB_len9 (n := m) (by omega)
       simp only [go_sem, hmm]
       refine ⟨by omega, ?_⟩
       refine call_lend ?_
       simp only [go_sem]
       refine callN.eq (ok140 m hm9) (by simp only [go_sem]) ?_
       simp only [go_sem]
       refine ⟨by omega, ?_⟩
       simp only [go_sem, strOfA_3]
       rw [Blk.sh_yes hsh, Blk.shB, <- hL, hmm]
       rfl
theorem ok90 (b : Blk) : VCalls gz 90 [b.enc false] none (fun y _ => y = .lit (.int .i64 (if b.sh.size = 0 then -1 else b.nm))) := by
 refine VCalls.go (nt := 11) (keep := [0, 1, 2, 3, 7]) (muts := []) (mvs := []) [] f90_at rfl (by kernel_rfl) rfl (by kernel_rfl) rfl (fun i h => by cases h) rfl ?_
 intro hok
 simp only [go_sem] at hok
 simp only [Tryz.f90, Func.code, Option.getD_some]
 simp only [go_sem]
 refine call_lend ?_
 simp only [go_sem]
 refine callN.eq (ok123 b) (by simp only [go_sem]) ?_
 simp only [go_sem]
 first | refine branch_ndec (fun h => ?_) (fun h => ?_) | refine branch_dec (fun h => ?_) (fun h => ?_) | refine branch_nbool (fun h => ?_) (fun h => ?_) | refine branch_split (fun h => ?_) (fun h => ?_)
 ·have : b.sh.size = 0 := by rw [h]; rfl
  simp only [go_sem, this]
 ·have : ¬ b.sh.size = 0 := fun hs => h (bext (List.eq_nil_of_length_eq_zero (by rw [<- bsz, hs])))
  simp only [go_sem, this]
  refine call_lend ?_
  simp only [go_sem]
  refine callN.eq (ok124 b.sh) (by simp only [go_sem]) ?_
  simp only [go_sem]
  rfl
end Go.VS
set_option linter.unusedSimpArgs false
set_option linter.unusedVariables false
open Go.Proofs
set_option maxRecDepth 20000
namespace Go.VS
theorem Blk.ok_sz {b : Blk} {n : Int} (h : b.ok n = true) : b.sz <= 1000 := by
 have h1 := Prf.ok_sz (Blk.ok_of h).1
 have h2 := (Blk.ok_of h).2.2.2.2.2
 simp only [movesOk, Bool.and_eq_true, decide_eq_true_eq, Bool.not_eq_true', List.any_eq_false] at h2
 have h3 : ∀ l : List ByteArray, (∀ s ∈ l, s.size <= 60) -> (l.map ByteArray.size).sum <= 60 * l.length := fun l => by
  induction l with
  | nil => simp
  | cons s l ih =>
   intro h
   have a := h s (List.mem_cons_self ..)
   have b := ih fun x hx => h x (List.mem_cons_of_mem _ hx)
   simp only [List.map_cons, List.sum_cons, List.length_cons]
   omega
 have h4 := h3 b.moves fun s hs => by
  have := h2.2 s hs
  simp only [mvB, decide_eq_true_eq] at this
  omega
 unfold Blk.sz szL
 omega
theorem Rpl.tkB_no {r : Rpl} {b : Blk} (h : ¬ r.new b) : r.tkB b = (r, []) := if_neg h
theorem Rpl.tkB_yes {r : Rpl} {b : Blk} (h : r.new b) : r.tkB b =
  if b.view <= (r.tkB0 b).voted \/ b.proof.view < (r.tkB0 b).locked then (r.tkB0 b, []) else
  if (b.view + 1).tmod r.n = r.id then ((({ r.tkB0 b with voted := b.view } : Rpl).tkV (r.cast b)), [])
  else ({ r.tkB0 b with voted := b.view }, [⟨2, r.id, (b.view + 1).tmod r.n, 0, zBlk, r.cast b, zPrf⟩]) := if_pos h
theorem msgV_sz (d : Int) (v : Vot) : (⟨2, 0, d, 0, zBlk, v, zPrf⟩ : Msg).sz <= 1048576 := by
 show zBlk.sz + zPrf.sz <= 1048576
 decide
end Go.VS
