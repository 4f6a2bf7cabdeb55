/- VS: functions by the machine. -/
import Derived.Test.YtejhoajebbigbaaGreatDoorVl
import Derived.Test.YtejhoajebbigbaaGreatDoorVk
import Derived.Test.YtejhoajebbigbaaGreatDoorVn
import Derived.Test.YtejhoajebbigbaaGreatDoorVq
import Derived.Test.YtejhoajebbigbaaGreatDoorVg
import Derived.Test.YtejhoajebbigbaaGreatDoorVr
set_option linter.unusedSimpArgs false
set_option linter.unusedVariables false
open Go.Proofs
set_option maxRecDepth 20000
namespace Go.VS
theorem f128_at : gz.P.funcs[128]? = some Tryz.f128 := by
 have h : Tryz.prog.funcs[128]? = some Tryz.f128 := by kernel_rfl
 exact h
theorem f73_at : gz.P.funcs[73]? = some Tryz.f73 := by
 have h : Tryz.prog.funcs[73]? = some Tryz.f73 := by kernel_rfl
 exact h
theorem Rpl.tkN_no {r : Rpl} {x : Nws} (h : ¬ ((1 <= x.view /\ x.view <= 100000) /\ x.view.tmod r.n = r.id /\ r.news.length < 30 /\ ¬ x ∈ r.news)) : r.tkN x = r := if_neg h
theorem Rpl.tkN_yes {r : Rpl} {x : Nws} (h : (1 <= x.view /\ x.view <= 100000) /\ x.view.tmod r.n = r.id /\ r.news.length < 30 /\ ¬ x ∈ r.news) : r.tkN x = { r with news := r.news ++ [x] } := if_pos h
theorem ok128 (r : Rpl) (out : List Msg) (hw : r.wf) (x : Nws) : VCalls gz 128 [.ptr true ((r.wk out).enc true), x.enc] (some 0) (fun y x' => y = .tup [] /\ x' = ((r.tkN x).wk out).enc true) := by
 obtain ⟨T, hT⟩ : ∃ T, T = r.tkN x := ⟨_, rfl⟩
 rw [<- hT]
 have hnl := hw.nl
 have hn := srv_rng hw.sv
 have hn0 : ¬ r.n = 0 := by omega
 refine VCalls.go (nt := 54) (keep := [0, 1, 3, 41]) (muts := [0]) (mvs := []) [(1, .tree true (.take 0 (.take 1 (.take 2 (.take 3 (.take 4 (.take 5 (.take 6 (.take 7 (.take 8 (.take 9 (.all (.cons 10 (.take 11 (.take 12 (.take 13 (.take 14 (.take 15 (.take 16 (.take 17 (.take 18 (.take 19 (.take 20 (.take 21 (.take 22 (.take 23 (.take 24 (.take 25 (.take 26 (.take 27 (.take 28 (.take 29 (.take 30 (.take 31 (.take 32 (.take 33 (.take 34 (.take 35 (.all (.cons 36 (.take 37 .done) .nil))))))))))))))))))))))))))) .nil))))))))))))), (2, .tree false (.take 0 (.take 1 (.take 2 (.take 3 (.take 4 (.all (.cons 5 (.all (.cons 6 (.all (.cons 7 (.all (.cons 8 (.take 9 (.take 10 (.take 11 (.all (.cons 12 .done .nil))))) .nil)) .nil)) .nil)) (.cons 6 (.all (.cons 5 (.all (.cons 7 (.all (.cons 8 (.take 9 (.take 10 (.take 11 (.all (.cons 12 .done .nil))))) .nil)) .nil)) (.cons 7 (.all (.cons 5 (.all (.cons 8 (.take 9 (.take 10 (.take 11 (.all (.cons 12 .done .nil))))) .nil)) .nil)) .nil))) .nil)))))))))] f128_at rfl (by kernel_rfl) rfl (by kernel_rfl) rfl (fun i h => by cases h; exact ⟨rfl, by simp⟩) rfl ?_
 intro hok
 simp only [go_sem] at hok
 simp only [Tryz.f128, Func.code, Option.getD_some]
 simp only [go_sem]
 intro _
 by_cases c1 : (r.news.length : Int) = 30
 ·rw [Rpl.tkN_no (fun h => by omega)] at hT
  subst hT
  simp only [go_sem, eq_true c1]
  try trivial
 simp only [go_sem, c1]
 refine call_lend ?_
 simp only [go_sem]
 refine callN.eq (ok78 x.view) (by simp only [go_sem]) ?_
 simp only [go_sem]
 by_cases c2 : 1 <= x.view /\ x.view <= 100000
 rotate_left
 ·rw [Rpl.tkN_no (fun h => c2 h.1)] at hT
  subst hT
  simp only [go_sem, c2]
  try trivial
 simp only [go_sem, eq_true c2, hn0]
 by_cases c3 : x.view.tmod r.n = r.id
 rotate_left
 ·rw [Rpl.tkN_no (fun h => c3 h.2.1)] at hT
  subst hT
  simp only [go_sem, c3]
  try trivial
 simp only [go_sem, eq_true c3]
 refine call_lend ?_
 simp only [go_sem]
 refine callN.eq (ok148 r.news x) (by simp only [go_sem]) ?_
 simp only [go_sem]
 by_cases c4 : x ∈ r.news
 ·rw [Rpl.tkN_no (fun h => h.2.2.2 c4)] at hT
  subst hT
  simp only [go_sem, eq_true c4]
  try trivial
 rw [Rpl.tkN_yes ⟨c2, c3, by omega, c4⟩] at hT
 simp only [go_sem, c4]
 subst hT
 refine ⟨⟨by omega, by omega⟩, ?_⟩
 simp only [List.map_append, List.map_cons, List.map_nil, Nws.enc_eq, and_self]
theorem nxH {P : Nat -> Prop} {i : Nat} (he : ∀ j, j < i -> P j) (h : P i) : ∀ j, j < i + 1 -> P j := fun j hj => by
 by_cases hji : j < i
 ·exact he j hji
 ·have : j = i := by omega
  exact this ▸ h
theorem mem_none {α : Type} [Inhabited α] {xs : List α} {x : α} (h : ∀ j, j < xs.length -> ¬ xs.getD j default = x) : ¬ x ∈ xs := fun hx => by
 obtain ⟨j, hj, he⟩ := List.mem_iff_getElem.1 hx
 exact h j hj (by rw [<- getElem_D hj]; exact he)
set_option maxHeartbeats 1000000 in
theorem ok73 (r : Rpl) (hw : r.wf) (x : Nws) : VCalls gz 73 [.ptr true (r.enc true), x.enc] (some 0) (fun y x' => y = .tup [] /\ x' = (r.tkN x).enc true) := by
 obtain ⟨T, hT⟩ : ∃ T, T = r.tkN x := ⟨_, rfl⟩
 rw [<- hT]
 have hnl := hw.nl
 have hn := srv_rng hw.sv
 have hn0 : ¬ r.n = 0 := by omega
 refine VCalls.go (nt := 59) (keep := [0, 1, 3, 4, 30, 37, 48]) (muts := [0]) (mvs := []) [(1, .tree true (.take 0 (.take 1 (.all (.cons 2 (.take 3 (.take 4 (.take 5 (.take 6 (.take 7 (.take 8 (.take 9 (.take 10 (.take 11 (.take 12 (.take 13 (.take 14 (.take 15 (.take 16 (.take 17 (.take 18 (.take 19 (.take 20 (.take 21 (.take 22 (.take 23 (.take 24 (.take 25 .done))))))))))))))))))))))) .nil))))), (5, .chain true [0, 1, 2, 3, 4, 5, 6, 7, 8]), (6, .tree false (.take 0 (.take 1 (.take 2 (.take 3 (.all (.cons 4 (.all (.cons 5 (.all (.cons 6 (.all (.cons 7 (.take 8 (.take 9 (.all (.cons 10 .done .nil)))) .nil)) .nil)) .nil)) (.cons 5 (.all (.cons 4 (.all (.cons 6 (.all (.cons 7 (.take 8 (.take 9 (.all (.cons 10 .done .nil)))) .nil)) .nil)) (.cons 6 (.all (.cons 4 (.all (.cons 7 (.take 8 (.take 9 (.all (.cons 10 .done .nil)))) .nil)) .nil)) .nil))) .nil))))))))] f73_at rfl (by kernel_rfl) rfl (by kernel_rfl) rfl (fun i h => by cases h; exact ⟨rfl, by simp⟩) rfl ?_
 intro hok
 simp only [go_sem] at hok
 simp only [Tryz.f73, Func.code, Option.getD_some]
 simp only [go_sem]
 refine call_lend ?_
 simp only [go_sem]
 refine callN.eq (ok60 x.view 1 100000) (by simp only [go_sem]) ?_
 simp only [go_sem]
 by_cases c2 : 1 <= x.view /\ x.view <= 100000
 rotate_left
 ·rw [Rpl.tkN_no (fun h => c2 h.1)] at hT
  subst hT
  simp only [go_sem, c2]
  try trivial
 simp only [go_sem, eq_true c2, hn0]
 by_cases c3 : x.view.tmod r.n = r.id
 rotate_left
 ·rw [Rpl.tkN_no (fun h => c3 h.2.1)] at hT
  subst hT
  simp only [go_sem, c3]
  try trivial
 simp only [go_sem, eq_true c3]
 intro _
 by_cases c1 : (30 : Int) <= (r.news.length : Int)
 ·rw [Rpl.tkN_no (fun h => by omega)] at hT
  subst hT
  simp only [go_sem, eq_true c1]
  try trivial
 simp only [go_sem, c1]
 refine vm_loopK (α := Nat) (fun i => [(0, .ptr true (r.enc true)), (3, .ptr true x.enc), (4, .lit (.int .i64 i))]) (fun i => i <= r.news.length /\ ∀ j, j < i -> ¬ r.news.getD j default = x) (fun i => r.news.length - i) 0 ?_ ⟨by omega, fun j hj => by omega⟩ (by kernel_rfl) (fun _ => rfl) ?_
 ·simp only [go_sem]
  try trivial
 ·rintro i ⟨hi, he⟩ hk
  simp only [go_sem]
  intro _
  first | refine branch_ndec (fun h6 => ?_) (fun h6 => ?_) | refine branch_dec (fun h6 => ?_) (fun h6 => ?_) | refine branch_nbool (fun h6 => ?_) (fun h6 => ?_) | refine branch_split (fun h6 => ?_) (fun h6 => ?_)
  rotate_left
  ·have hie : i = r.news.length := by omega
   have c4 := mem_none (x := x) (fun j hj => he j (by omega))
   rw [Rpl.tkN_yes ⟨c2, c3, by omega, c4⟩] at hT
   simp only [go_sem]
   subst hT
   refine ⟨⟨by omega, by omega⟩, ?_⟩
   simp only [List.map_append, List.map_cons, List.map_nil, Nws.enc_eq, and_self]
  have hlt : i < r.news.length := by omega
  have h0 : (0 : Int) <= (i : Int) := by omega
  have hw3 : IntKind.i64.wrap ((i : Int) + 1) = ((i + 1 : Nat) : Int) := by rw [wrap64 (by omega) (by omega)]; omega
  simp only [go_sem, h0, hlt, h6, Nws.eqB_eq]
  by_cases h7 : r.news.getD i default = x
  ·have hm : x ∈ r.news := h7 ▸ getD_mem hlt
   have e7 : eqB (r.news.getD i default) x = true := decide_eq_true h7
   rw [Rpl.tkN_no (fun h => h.2.2.2 hm)] at hT
   simp only [go_sem, e7]
   subst hT
   try trivial
  ·have e7 : eqB (r.news.getD i default) x = false := decide_eq_false h7
   simp only [go_sem, e7, hw3]
   refine again_intro (i + 1) ⟨by omega, nxH he h7⟩ (by omega) ?_
   simp only [go_sem]
   try trivial
end Go.VS
set_option linter.unusedSimpArgs false
set_option linter.unusedVariables false
open Go.Proofs
set_option maxRecDepth 20000
namespace Go.VS
theorem f35_at : gz.P.funcs[35]? = some Tryz.f35 := by
 have h : Tryz.prog.funcs[35]? = some Tryz.f35 := by kernel_rfl
 exact h
theorem ok35 (r : Rpl) (hr : r.hold) : VCalls gz 35 [r.enc false] none (fun y _ => y = .ptr true (r.pty.enc true)) := by
 have hb2 := hr.2.1
 refine VCalls.go (nt := 30) (keep := [0, 1, 2, 3, 5, 11, 12, 13, 14]) (muts := []) (mvs := []) [(5, .tree false (.take 0 (.take 1 (.take 2 (.take 3 (.all (.cons 4 (.all (.cons 5 (.all (.cons 6 (.all (.cons 7 (.all (.cons 8 (.take 9 (.take 10 (.all (.cons 11 .done .nil)))) .nil)) .nil)) .nil)) .nil)) (.cons 5 (.all (.cons 4 (.all (.cons 6 (.all (.cons 7 (.all (.cons 8 (.take 9 (.take 10 (.all (.cons 11 .done .nil)))) .nil)) .nil)) .nil)) (.cons 6 (.all (.cons 4 (.all (.cons 7 (.all (.cons 8 (.take 9 (.take 10 (.all (.cons 11 .done .nil)))) .nil)) .nil)) (.cons 7 (.all (.cons 4 (.all (.cons 8 (.take 9 (.take 10 (.all (.cons 11 .done .nil)))) .nil)) .nil)) .nil))) .nil))) .nil))))))))] f35_at rfl (by kernel_rfl) rfl (by kernel_rfl) rfl (fun i h => by cases h) rfl ?_
 intro hok
 simp only [go_sem] at hok
 simp only [Tryz.f35, Func.code, Option.getD_some]
 simp only [go_sem]
 refine call_lend ?_
 simp only [go_sem]
 refine callN.eq (ok89 r hr) (by simp only [go_sem]) ?_
 simp only [go_sem]
 intro hm
 refine vm_loopK (α := Nat) (fun i => [(1, .ptr true (r.enc false)), (3, .ptr true (Pty.enc true ⟨r, (r.blocks.take i).map Blk.nmI, []⟩)), (11, .lst false 8 (r.blocks.map (Blk.enc false))), (12, .lit (.int .i64 r.blocks.length)), (13, .lit (.int .i64 i))]) (fun i => i <= r.blocks.length) (fun i => r.blocks.length - i) 0 ?_ (by omega) (by kernel_rfl) (fun _ => rfl) ?_
 ·simp only [go_sem]
  try rfl
 ·intro i hi hk
  simp only [go_sem]
  first | refine branch_ndec (fun h6 => ?_) (fun h6 => ?_) | refine branch_dec (fun h6 => ?_) (fun h6 => ?_) | refine branch_nbool (fun h6 => ?_) (fun h6 => ?_) | refine branch_split (fun h6 => ?_) (fun h6 => ?_)
  ·have hlt : i < r.blocks.length := by omega
   have h0 : (0 : Int) <= (i : Int) := by omega
   have hw3 : IntKind.i64.wrap ((i : Int) + 1) = ((i + 1 : Nat) : Int) := by rw [wrap64 (by omega) (by omega)]; omega
   simp only [go_sem, h0, hlt, h6]
   repeat' refine And.intro ?_ ?_
   all_goals
    refine call_lend ?_
    simp only [go_sem]
    refine callN.eq (ok90 (r.blocks.getD i default)) (by simp only [go_sem]) ?_
    simp only [go_sem]
    have hlk : (r.blocks.take i).length = i := by rw [List.length_take]; omega
    refine ⟨by omega, ?_⟩
    rw [hw3]
    refine again_intro (i + 1) (by omega) (by omega) ?_
    simp only [go_sem]
    rw [take_succ_getD hlt, List.map_append, List.map_append, List.take_of_length_le (by simp)]
    rfl
  ·have hie : i = r.blocks.length := by omega
   subst hie
   simp only [go_sem]
   simp only [Rpl.pty, List.take_length, and_self, List.map_nil]
end Go.VS
set_option linter.unusedSimpArgs false
set_option linter.unusedVariables false
open Go.Proofs
set_option maxRecDepth 20000
namespace Go.VS
theorem f36_at : gz.P.funcs[36]? = some Tryz.f36 := by
 have h : Tryz.prog.funcs[36]? = some Tryz.f36 := by kernel_rfl
 exact h
theorem f37_at : gz.P.funcs[37]? = some Tryz.f37 := by
 have h : Tryz.prog.funcs[37]? = some Tryz.f37 := by kernel_rfl
 exact h
theorem ok91 (r : Rpl) (out : List Msg) (hw : r.wf) (hid : 0 <= r.id /\ r.id <= 6) (ho : out.length <= 1000) (m : Msg) : VCalls gz 91 [.ptr true ((r.wk out).enc true), m.enc false] (some 0) (fun y x' => y = .tup [] /\ x' = ((r.tk m).1.wk (out ++ (r.tk m).2)).enc true) := by
 obtain ⟨T, hT⟩ : ∃ T, T = (r.tk m).1 := ⟨_, rfl⟩
 obtain ⟨U, hU⟩ : ∃ U, U = out ++ (r.tk m).2 := ⟨_, rfl⟩
 rw [<- hT, <- hU]
 refine VCalls.go (nt := 31) (keep := [0, 1, 3, 5, 6, 12, 18]) (muts := [0]) (mvs := []) [] f91_at rfl (by kernel_rfl) rfl (by kernel_rfl) rfl (fun i h => by cases h; exact ⟨rfl, by simp⟩) rfl ?_
 intro hok
 simp only [go_sem] at hok
 simp only [Tryz.f91, Func.code, Option.getD_some]
 simp only [go_sem]
 by_cases k1 : m.kind = 1
 ·have e1 : r.tk m = r.tkB m.block := if_pos k1
  rw [e1] at hT hU
  simp only [go_sem, eq_true k1]
  refine call_mut 0 0 rfl rfl rfl (by simp only [go_sem]) ?_
  simp only [go_sem, List.set]
  refine callM.eq (ok125 r out hw hid ho m.block) ?_
  simp only [go_sem]
  rw [hT, hU]
  first | trivial | (simp only [List.map_append, and_self]; done) | (simp only [List.map_append, and_self]; trivial)
 by_cases k2 : m.kind = 2
 ·have e1 : r.tk m = (r.tkV m.vote, []) := by unfold Rpl.tk; rw [if_neg k1, if_pos k2]
  rw [e1] at hT hU
  simp only [List.append_nil] at hT hU
  simp only [go_sem, k1, eq_true k2]
  refine call_mut 0 0 rfl rfl rfl (by simp only [go_sem]) ?_
  simp only [go_sem, List.set]
  refine callM.eq (ok126 r out hw m.vote) ?_
  simp only [go_sem]
  rw [hT, hU]
  try trivial
 by_cases k3 : m.kind = 3
 ·have e1 : r.tk m = ((r.tkP m.proof).tkN ⟨m.view, m.src⟩, []) := by unfold Rpl.tk; rw [if_neg k1, if_neg k2, if_pos k3]
  rw [e1] at hT hU
  simp only [List.append_nil] at hT hU
  simp only [go_sem, k1, k2, eq_true k3]
  refine call_mut 0 0 rfl rfl rfl (by simp only [go_sem]) ?_
  simp only [go_sem, List.set]
  refine callM.eq (ok127 r out hw m.proof) ?_
  simp only [go_sem]
  refine call_mut 0 0 rfl rfl rfl (by simp only [go_sem]) ?_
  simp only [go_sem, List.set]
  refine callM.eq (ok128 (r.tkP m.proof) out (hw.tkP m.proof) ⟨m.view, m.src⟩) ?_
  simp only [go_sem]
  rw [hT, hU]
  try trivial
 ·have e1 : r.tk m = (r, []) := by unfold Rpl.tk; rw [if_neg k1, if_neg k2, if_neg k3]
  rw [e1] at hT hU
  simp only [List.append_nil] at hT hU
  simp only [go_sem, k1, k2, k3]
  rw [hT, hU]
  try trivial
theorem ok36 (r : Rpl) (out : List Msg) (hw : r.wf) (hid : 0 <= r.id /\ r.id <= 6) (ho : out.length <= 1000) (m : Msg) : VCalls gz 36 [.ptr true ((r.wk out).enc true), m.enc false] (some 0) (fun y x' => y = .tup [] /\ x' = ((r.hr m).1.wk (out ++ (r.hr m).2)).enc true) := by
 obtain ⟨T, hT⟩ : ∃ T, T = (r.hr m).1 := ⟨_, rfl⟩
 obtain ⟨U, hU⟩ : ∃ U, U = out ++ (r.hr m).2 := ⟨_, rfl⟩
 rw [<- hT, <- hU]
 have hn := srv_rng hw.sv
 have w1 : IntKind.i64.wrap (r.n - 1) = r.n - 1 := wrap64 (by omega) (by omega)
 refine VCalls.go (nt := 36) (keep := [0, 1, 3, 32]) (muts := [0]) (mvs := []) [(1, .tree true (.take 0 (.take 1 (.take 2 (.take 3 (.take 4 (.take 5 (.take 6 (.take 7 (.take 8 (.take 9 (.take 10 (.take 11 (.take 12 (.take 13 (.take 14 (.take 15 (.take 16 (.take 17 (.take 18 (.take 19 (.take 20 (.take 21 (.take 22 (.take 23 (.take 24 (.take 25 (.take 26 (.all (.cons 27 (.take 28 .done) .nil))))))))))))))))))))))))))))))] f36_at rfl (by kernel_rfl) rfl (by kernel_rfl) rfl (fun i h => by cases h; exact ⟨rfl, by simp⟩) rfl ?_
 intro hok
 simp only [go_sem] at hok
 simp only [Tryz.f36, Func.code, Option.getD_some]
 simp only [go_sem]
 by_cases c1 : m.dst = r.id
 rotate_left
 ·have e : r.hr m = (r, []) := if_neg (fun h => c1 h.1)
  rw [e] at hT hU
  simp only [List.append_nil] at hT hU
  simp only [go_sem, c1]
  rw [hT, hU]
  try trivial
 simp only [go_sem, eq_true c1]
 by_cases c2 : m.src = r.id
 ·have e : r.hr m = (r, []) := if_neg (fun h => h.2.1 c2)
  rw [e] at hT hU
  simp only [List.append_nil] at hT hU
  simp only [go_sem, eq_true c2]
  rw [hT, hU]
  try trivial
 simp only [go_sem, c2, w1]
 refine call_lend ?_
 simp only [go_sem]
 refine callN.eq (ok77 m.src 0 (r.n - 1)) (by simp only [go_sem]) ?_
 simp only [go_sem]
 by_cases c3 : 0 <= m.src /\ m.src <= r.n - 1
 rotate_left
 ·have e : r.hr m = (r, []) := if_neg (fun h => c3 h.2.2)
  rw [e] at hT hU
  simp only [List.append_nil] at hT hU
  simp only [go_sem, c3]
  rw [hT, hU]
  try trivial
 have e : r.hr m = r.tk m := if_pos ⟨c1, c2, c3⟩
 rw [e] at hT hU
 simp only [go_sem, eq_true c3]
 refine call_mut 0 0 rfl rfl rfl (by simp only [go_sem]) ?_
 simp only [go_sem, List.set]
 refine callM.eq (ok91 r out hw hid ho m) ?_
 simp only [go_sem]
 rw [hT, hU]
 first | trivial | (simp only [List.map_append, and_self]; done) | (simp only [List.map_append, and_self]; trivial)
theorem ok37 (r : Rpl) (out : List Msg) : VCalls gz 37 [.ptr true ((r.wk out).enc true)] (some 0) (fun y x' => y = .lst true 20 (out.map (Msg.enc true)) /\ x' = (r.wk []).enc true) := by
 refine VCalls.go (nt := 12) (keep := [0, 2, 3]) (muts := [0]) (mvs := [1]) [] f37_at rfl (by kernel_rfl) rfl (by kernel_rfl) rfl (fun i h => by cases h; exact ⟨rfl, by simp⟩) rfl ?_
 intro hok
 simp only [go_sem] at hok
 simp only [Tryz.f37, Func.code, Option.getD_some]
 simp only [go_sem]
 try trivial
end Go.VS
set_option linter.unusedSimpArgs false
set_option linter.unusedVariables false
open Go.Proofs
set_option maxRecDepth 20000
namespace Go.VS
def Rpl.encU (r : Rpl) : AVal := .agg [.lit (.int .i64 r.id), .lit (.int .i64 r.n), .lit (.int .i64 r.view), .lit (.int .i64 r.voted), .lit (.int .i64 r.locked), .lit (.int .i64 r.proposed), .agg [.lit (.int .i64 r.high.view), .lit (.int .i64 r.high.name), .undef, .undef], .undef, .undef, .undef, .undef]
theorem Rpl.encU_eq {r : Rpl} : r.encU = .agg [.lit (.int .i64 r.id), .lit (.int .i64 r.n), .lit (.int .i64 r.view), .lit (.int .i64 r.voted), .lit (.int .i64 r.locked), .lit (.int .i64 r.proposed), .agg [.lit (.int .i64 r.high.view), .lit (.int .i64 r.high.name), .undef, .undef], .undef, .undef, .undef, .undef] := nr rfl
attribute [go_sem] Rpl.encU_eq
theorem okU37 (r : Rpl) (ns : List Int) (out : List Msg) : VCalls gz 37 [.ptr true (.agg [r.encU, .lst true 1 (ns.map intA), .lst true 20 (out.map (Msg.enc true))])] (some 0) (fun y x' => y = .lst true 20 (out.map (Msg.enc true)) /\ x' = .agg [r.encU, .lst true 1 (ns.map intA), .lst true 20 []]) := by
 refine VCalls.go (nt := 12) (keep := [0, 2, 3]) (muts := [0]) (mvs := [1]) [] f37_at rfl (by kernel_rfl) rfl (by kernel_rfl) rfl (fun i h => by cases h; exact ⟨rfl, by simp⟩) rfl ?_
 intro hok
 simp only [go_sem] at hok
 simp only [Tryz.f37, Func.code, Option.getD_some]
 simp only [go_sem]
 try trivial
end Go.VS
