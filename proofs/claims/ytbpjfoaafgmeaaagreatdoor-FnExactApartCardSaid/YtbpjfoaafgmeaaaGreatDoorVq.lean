/- VS: functions by the machine. -/
import Derived.Test.YtbpjfoaafgmeaaaGreatDoorVl
import Derived.Test.YtbpjfoaafgmeaaaGreatDoorVj
import Derived.Test.YtbpjfoaafgmeaaaGreatDoorVf
import Derived.Test.YtbpjfoaafgmeaaaGreatDoorVp
set_option linter.unusedSimpArgs false
set_option linter.unusedVariables false
open Go.Proofs
set_option maxRecDepth 20000
namespace Go.VS
theorem f56_at : gz.P.funcs[56]? = some Tryz.f56 := by
  have h : Tryz.prog.funcs[56]? = some Tryz.f56 := by kernel_rfl
  exact h
def Pty.bkR (p : Pty) (i : Nat) : Bool := (p.r.blocks.getD i default).ok p.r.n && (decide (p.fnd (p.names.getD i default) = (i : Int)) && p.knw (p.r.blocks.getD i default) i)
def Pty.bkOk (p : Pty) : Bool := decide (p.r.blocks.length ≤ 60) && (List.range p.r.blocks.length).all p.bkR
theorem Pty.bk_bad {p : Pty} {i : Nat} (hi : i < p.r.blocks.length) (h : p.bkR i = false) : p.bkOk = false := by
  have : (List.range p.r.blocks.length).all p.bkR = false := List.all_eq_false.2 ⟨i, List.mem_range.2 hi, by rw [h]; decide⟩
  rw [Pty.bkOk, this, Bool.and_false]
set_option maxHeartbeats 2000000 in
theorem ok56 (p : Pty) (hl : p.names.length = p.r.blocks.length) : VCalls gz 56 [.ptr false (p.enc false)] none (fun y _ => y = .lit (.bool p.bkOk)) := by
  refine VCalls.go (nt := 52) (keep := [0, 2, 3, 4, 11, 16, 17, 18, 19, 50]) (muts := []) (mvs := []) [(6, .tree false (.take 1 (.take 2 (.take 3 (.take 4 (.all (.cons 0 (.all (.cons 5 (.all (.cons 6 (.take 7 (.take 8 (.take 9 (.take 10 (.take 11 (.take 12 (.take 14 (.take 18 (.all (.cons 13 (.take 15 (.all (.cons 16 (.all (.cons 17 (.take 19 (.take 20 (.take 21 (.take 22 (.take 24 (.all (.cons 23 (.all (.cons 25 (.take 26 (.take 27 .done)) .nil)) .nil))))))) .nil)) .nil))) .nil)))))))))) .nil)) .nil)) (.cons 5 (.all (.cons 0 (.all (.cons 6 (.take 7 (.take 8 (.take 9 (.take 10 (.take 11 (.take 12 (.take 14 (.take 18 (.all (.cons 13 (.take 15 (.all (.cons 16 (.all (.cons 17 (.take 19 (.take 20 (.take 21 (.take 22 (.take 24 (.all (.cons 23 (.all (.cons 25 (.take 26 (.take 27 .done)) .nil)) .nil))))))) .nil)) .nil))) .nil)))))))))) .nil)) .nil)) .nil))))))))] f56_at rfl (by kernel_rfl) rfl (by kernel_rfl) rfl (fun i h => by cases h) rfl ?_
  intro hok
  simp only [go_sem] at hok
  simp only [Tryz.f56, Func.code, Option.getD_some]
  simp only [go_sem]
  intro hm
  first | refine branch_ndec (fun h1 => ?_) (fun h1 => ?_) | refine branch_dec (fun h1 => ?_) (fun h1 => ?_) | refine branch_nbool (fun h1 => ?_) (fun h1 => ?_) | refine branch_split (fun h1 => ?_) (fun h1 => ?_)
  · have : p.bkOk = false := by rw [Pty.bkOk, decide_eq_false (show ¬ p.r.blocks.length ≤ 60 by omega), Bool.false_and]
    simp only [go_sem, this]
  simp only [go_sem]
  intro hm2
  refine vm_loopK (α := Nat) (fun i => [(0, .ptr false (p.enc false)), (2, .lit (.bool false)), (16, .lst false 8 (p.r.blocks.map (Blk.enc false))), (17, .lit (.int .i64 p.r.blocks.length)), (18, .lit (.int .i64 i))]) (fun i => i ≤ p.r.blocks.length ∧ ∀ j, j < i → p.bkR j = true) (fun i => p.r.blocks.length - i) 0 ?_ ⟨by omega, fun j hj => by omega⟩ (by kernel_rfl) (fun _ => rfl) ?_
  · simp only [go_sem]
    try rfl
  · rintro i ⟨hi, he⟩ hk
    simp only [go_sem]
    first | refine branch_ndec (fun h6 => ?_) (fun h6 => ?_) | refine branch_dec (fun h6 => ?_) (fun h6 => ?_) | refine branch_nbool (fun h6 => ?_) (fun h6 => ?_) | refine branch_split (fun h6 => ?_) (fun h6 => ?_)
    rotate_left
    · have h60 : p.r.blocks.length ≤ 60 := by omega
      have : p.bkOk = true := by
        have e : (List.range p.r.blocks.length).all p.bkR = true := List.all_eq_true.2 fun x hx => he x (by have := List.mem_range.1 hx; omega)
        rw [Pty.bkOk, decide_eq_true h60, e]
        rfl
      simp only [go_sem, this]
    have hlt : i < p.r.blocks.length := by omega
    have hlt2 : i < p.names.length := by omega
    have h0 : (0 : Int) ≤ (i : Int) := by omega
    have h6b : (i : Int) < (p.names.length : Int) := by omega
    have hw3 : IntKind.i64.wrap ((i : Int) + 1) = ((i + 1 : Nat) : Int) := by rw [wrap64 (by omega) (by omega)]; omega
    simp only [go_sem, h0, hlt, h6]
    repeat' refine And.intro ?_ ?_
    all_goals
      refine call_lend ?_
      simp only [go_sem]
      refine callN.eq (ok108 (p.r.blocks.getD i default) p.r.n) (by simp only [go_sem]) ?_
      simp only [go_sem]
      cases hb : (p.r.blocks.getD i default).ok p.r.n
      · have : p.bkOk = false := Pty.bk_bad hlt (by rw [Pty.bkR, hb, Bool.false_and])
        simp only [go_sem, this]
      simp only [go_sem, h0, hlt2, h6b]
      refine call_lend ?_
      simp only [go_sem]
      refine callN.eq (ok109 p (p.names.getD i default)) (by simp only [go_sem]) ?_
      simp only [go_sem]
      by_cases h7 : idxOf (isI (p.names.getD i default)) p.names = (i : Int)
      rotate_left
      · have : p.bkOk = false := Pty.bk_bad hlt (by rw [Pty.bkR, Pty.fnd, decide_eq_false h7, Bool.false_and, Bool.and_false])
        simp only [go_sem, h7, this]
      simp only [go_sem, eq_true h7]
      refine call_lend ?_
      simp only [go_sem]
      refine callN.eq (ok110 p hl (p.r.blocks.getD i default) i) (by simp only [go_sem]) ?_
      simp only [go_sem]
      cases hkn : p.knw (p.r.blocks.getD i default) i
      · have : p.bkOk = false := Pty.bk_bad hlt (by rw [Pty.bkR, hkn, Bool.and_false, Bool.and_false])
        simp only [go_sem, this]
      · simp only [go_sem, hw3]
        refine again_intro (i + 1) ⟨by omega, nx he (by rw [Pty.bkR, hb, Pty.fnd, decide_eq_true h7, hkn]; rfl)⟩ (by omega) ?_
        simp only [go_sem]
        try rfl
end Go.VS

set_option linter.unusedSimpArgs false
set_option linter.unusedVariables false
open Go.Proofs
set_option maxRecDepth 20000
namespace Go.VS
theorem f138_at : gz.P.funcs[138]? = some Tryz.f138 := by
  have h : Tryz.prog.funcs[138]? = some Tryz.f138 := by kernel_rfl
  exact h
theorem f136_at : gz.P.funcs[136]? = some Tryz.f136 := by
  have h : Tryz.prog.funcs[136]? = some Tryz.f136 := by kernel_rfl
  exact h
theorem f137_at : gz.P.funcs[137]? = some Tryz.f137 := by
  have h : Tryz.prog.funcs[137]? = some Tryz.f137 := by kernel_rfl
  exact h
theorem f134_at : gz.P.funcs[134]? = some Tryz.f134 := by
  have h : Tryz.prog.funcs[134]? = some Tryz.f134 := by kernel_rfl
  exact h
theorem f123_at : gz.P.funcs[123]? = some Tryz.f123 := by
  have h : Tryz.prog.funcs[123]? = some Tryz.f123 := by kernel_rfl
  exact h
theorem f135_at : gz.P.funcs[135]? = some Tryz.f135 := by
  have h : Tryz.prog.funcs[135]? = some Tryz.f135 := by kernel_rfl
  exact h
theorem ok138 (xs : List Int) (hx : xs.length * 8 ≤ 140737488355328) : VCalls gz 138 [.lst false 1 (xs.map intA)] none (fun y _ => y = .lst true 1 (xs.map intA)) := by
  refine VCalls.go (nt := 8) (keep := [0, 2, 4]) (muts := []) (mvs := []) [] f138_at rfl (by kernel_rfl) rfl (by kernel_rfl) rfl (fun i h => by cases h) rfl ?_
  intro hok
  simp only [go_sem] at hok
  simp only [Tryz.f138, Func.code, Option.getD_some]
  simp only [go_sem]
  intro b hb
  first | refine branch_ndec (fun h => ?_) (fun h => ?_) | refine branch_dec (fun h => ?_) (fun h => ?_) | refine branch_nbool (fun h => ?_) (fun h => ?_) | refine branch_split (fun h => ?_) (fun h => ?_)
  · simp only [go_sem]
    have h0 : xs = [] := List.eq_nil_of_length_eq_zero (Nat.eq_zero_of_not_pos fun h1 => by rw [hb h1] at h; cases h)
    subst h0
    simp only [go_sem]
  · simp only [go_sem]
    exact ⟨by omega, by omega⟩
theorem ok136 (xs : List Vot) (hx : xs.length * 32 ≤ 140737488355328) : VCalls gz 136 [.lst false 4 (xs.map Vot.enc)] none (fun y _ => y = .lst true 4 (xs.map Vot.enc)) := by
  refine VCalls.go (nt := 8) (keep := [0, 2, 4]) (muts := []) (mvs := []) [] f136_at rfl (by kernel_rfl) rfl (by kernel_rfl) rfl (fun i h => by cases h) rfl ?_
  intro hok
  simp only [go_sem] at hok
  simp only [Tryz.f136, Func.code, Option.getD_some]
  simp only [go_sem]
  intro b hb
  first | refine branch_ndec (fun h => ?_) (fun h => ?_) | refine branch_dec (fun h => ?_) (fun h => ?_) | refine branch_nbool (fun h => ?_) (fun h => ?_) | refine branch_split (fun h => ?_) (fun h => ?_)
  · simp only [go_sem]
    have h0 : xs = [] := List.eq_nil_of_length_eq_zero (Nat.eq_zero_of_not_pos fun h1 => by rw [hb h1] at h; cases h)
    subst h0
    simp only [go_sem]
  · simp only [go_sem]
    exact ⟨by omega, by omega⟩
theorem ok137 (xs : List Nws) (hx : xs.length * 16 ≤ 140737488355328) : VCalls gz 137 [.lst false 2 (xs.map Nws.enc)] none (fun y _ => y = .lst true 2 (xs.map Nws.enc)) := by
  refine VCalls.go (nt := 8) (keep := [0, 2, 4]) (muts := []) (mvs := []) [] f137_at rfl (by kernel_rfl) rfl (by kernel_rfl) rfl (fun i h => by cases h) rfl ?_
  intro hok
  simp only [go_sem] at hok
  simp only [Tryz.f137, Func.code, Option.getD_some]
  simp only [go_sem]
  intro b hb
  first | refine branch_ndec (fun h => ?_) (fun h => ?_) | refine branch_dec (fun h => ?_) (fun h => ?_) | refine branch_nbool (fun h => ?_) (fun h => ?_) | refine branch_split (fun h => ?_) (fun h => ?_)
  · simp only [go_sem]
    have h0 : xs = [] := List.eq_nil_of_length_eq_zero (Nat.eq_zero_of_not_pos fun h1 => by rw [hb h1] at h; cases h)
    subst h0
    simp only [go_sem]
  · simp only [go_sem]
    exact ⟨by omega, by omega⟩
theorem ok134 (p : Prf) (hp : p.sz ≤ 1048576) : VCalls gz 134 [p.enc false] none (fun y _ => y = p.enc true) := by
  have hp2 : p.bys.length + p.tags.length ≤ 1048576 := hp
  refine VCalls.go (nt := 12) (keep := [0, 1, 2]) (muts := []) (mvs := [1,2]) [(1, .tree false (.take 0 (.take 3 (.all (.cons 1 (.all (.cons 2 (.all (.cons 4 (.take 6 (.all (.cons 5 (.all (.cons 7 (.take 8 (.all (.cons 9 .done .nil))) .nil)) .nil))) .nil)) (.cons 4 (.all (.cons 2 (.take 6 (.all (.cons 5 (.all (.cons 7 (.take 8 (.all (.cons 9 .done .nil))) .nil)) .nil))) .nil)) .nil))) (.cons 4 (.all (.cons 1 (.all (.cons 2 (.take 6 (.all (.cons 5 (.all (.cons 7 (.take 8 (.all (.cons 9 .done .nil))) .nil)) .nil))) .nil)) .nil)) .nil))))))] f134_at rfl (by kernel_rfl) rfl (by kernel_rfl) rfl (fun i h => by cases h) rfl ?_
  intro hok
  simp only [go_sem] at hok
  simp only [Tryz.f134, Func.code, Option.getD_some]
  simp only [go_sem]
  repeat' refine And.intro ?_ ?_
  all_goals
    refine call_lend ?_
    simp only [go_sem]
    refine callN.eq (ok138 p.bys (by omega)) (by simp only [go_sem]) ?_
    simp only [go_sem]
    refine call_lend ?_
    simp only [go_sem]
    refine callN.eq (ok138 p.tags (by omega)) (by simp only [go_sem]) ?_
    simp only [go_sem]
theorem ok123 (b : Blk) (hb : b.sz ≤ 1048576) : VCalls gz 123 [b.enc false] none (fun y _ => y = b.enc true) := by
  have hb2 : b.proof.sz + szL ByteArray.size b.moves ≤ 1048576 := hb
  simp only [szL] at hb2
  refine VCalls.go (nt := 12) (keep := [0, 1, 2]) (muts := []) (mvs := [1,3]) [] f123_at rfl (by kernel_rfl) rfl (by kernel_rfl) rfl (fun i h => by cases h) rfl ?_
  intro hok
  simp only [go_sem] at hok
  simp only [Tryz.f123, Func.code, Option.getD_some]
  simp only [go_sem]
  refine call_lend ?_
  simp only [go_sem]
  refine callN.eq (ok134 b.proof (by omega)) (by simp only [go_sem]) ?_
  simp only [go_sem]
  refine call_lend ?_
  simp only [go_sem]
  refine callN.eq (ok148 b.moves (by omega)) (by simp only [go_sem]) ?_
  simp only [go_sem]
theorem ok135 (xs : List Blk) (hx : xs.length * 112 ≤ 140737488355328) : VCalls gz 135 [.lst false 8 (xs.map (Blk.enc false))] none (fun y _ => y = .lst true 8 (xs.map (Blk.enc false))) := by
  refine VCalls.go (nt := 8) (keep := [0, 2, 4]) (muts := []) (mvs := []) [] f135_at rfl (by kernel_rfl) rfl (by kernel_rfl) rfl (fun i h => by cases h) rfl ?_
  intro hok
  simp only [go_sem] at hok
  simp only [Tryz.f135, Func.code, Option.getD_some]
  simp only [go_sem]
  intro b hb
  first | refine branch_ndec (fun h => ?_) (fun h => ?_) | refine branch_dec (fun h => ?_) (fun h => ?_) | refine branch_nbool (fun h => ?_) (fun h => ?_) | refine branch_split (fun h => ?_) (fun h => ?_)
  · simp only [go_sem]
    have h0 : xs = [] := List.eq_nil_of_length_eq_zero (Nat.eq_zero_of_not_pos fun h1 => by rw [hb h1] at h; cases h)
    subst h0
    simp only [go_sem]
  · simp only [go_sem]
    exact ⟨by omega, by omega⟩
end Go.VS

set_option linter.unusedSimpArgs false
set_option linter.unusedVariables false
open Go.Proofs
set_option maxRecDepth 20000
namespace Go.VS
theorem f92_at : gz.P.funcs[92]? = some Tryz.f92 := by
  have h : Tryz.prog.funcs[92]? = some Tryz.f92 := by kernel_rfl
  exact h
def encP (q : Bool × Blk) : AVal := q.2.enc q.1
theorem encP_eq {q : Bool × Blk} : encP q = q.2.enc q.1 := nr rfl
attribute [go_sem] encP_eq
/-- the first i of them own what they hold -/
def mixL (xs : List Blk) (i : Nat) : List (Bool × Blk) := (xs.take i).map (fun b => (true, b)) ++ (xs.drop i).map (fun b => (false, b))
theorem mixL_zero {xs : List Blk} : (mixL xs 0).map encP = xs.map (Blk.enc false) := by
  simp only [mixL, List.take_zero, List.map_nil, List.nil_append, List.drop_zero, List.map_map]
  rfl
theorem mixL_all {xs : List Blk} : (mixL xs xs.length).map encP = xs.map (Blk.enc true) := by
  simp only [mixL, List.take_length, List.drop_length, List.map_nil, List.append_nil, List.map_map]
  rfl
theorem mixL_len {xs : List Blk} {i : Nat} (h : i ≤ xs.length) : (mixL xs i).length = xs.length := by
  simp only [mixL, List.length_append, List.length_map, List.length_take, List.length_drop]
  omega
theorem mixL_get {xs : List Blk} {i : Nat} (h : i < xs.length) : (mixL xs i).getD i default = (false, xs.getD i default) := by
  simp only [mixL, List.getD]
  rw [List.getElem?_append_right (by simp only [List.length_map, List.length_take]; omega)]
  simp only [List.length_map, List.length_take, Nat.min_eq_left (Nat.le_of_lt h), Nat.sub_self, List.getElem?_map, List.getElem?_drop, Nat.add_zero, List.getElem?_eq_getElem h, Option.map_some, Option.getD_some]
theorem mixL_set {xs : List Blk} {i : Nat} (h : i < xs.length) : (mixL xs i).set i (true, xs.getD i default) = mixL xs (i + 1) := by
  have hd : xs.drop i = xs.getD i default :: xs.drop (i + 1) := by
    rw [List.drop_eq_getElem_cons h]
    simp [List.getD, h]
  have hl : ((xs.take i).map (fun b => (true, b))).length = i := by simp only [List.length_map, List.length_take]; omega
  rw [mixL, hd, List.map_cons, List.set_append_right _ _ (by omega), hl, Nat.sub_self, List.set_cons_zero, mixL, take_succ_getD h, List.map_append, List.append_assoc]
  rfl
def Rpl.hold (r : Rpl) : Prop := r.high.sz ≤ 1048576 ∧ r.blocks.length ≤ 1048576 ∧ (∀ i, i < r.blocks.length → Blk.sz (r.blocks.getD i default) ≤ 1048576) ∧ r.votes.length ≤ 1048576 ∧ r.news.length ≤ 1048576 ∧ r.done.length ≤ 1048576
set_option maxHeartbeats 2000000 in
theorem ok92 (r : Rpl) (hr : r.hold) : VCalls gz 92 [r.enc false] none (fun y _ => y = r.enc true) := by
  obtain ⟨g1, g2, g3, g4, g5, g6⟩ := hr
  refine VCalls.go (nt := 42) (keep := [0, 1, 2, 3, 14, 15, 16]) (muts := []) (mvs := [1,2,6,8,9,10,11]) [(6, .tree false (.take 0 (.take 2 (.take 3 (.take 5 (.all (.cons 1 (.all (.cons 4 (.take 6 (.all (.cons 7 (.all (.cons 8 (.take 9 (.all (.cons 10 .done .nil))) .nil)) .nil))) .nil)) (.cons 4 (.take 6 (.all (.cons 1 (.all (.cons 7 (.all (.cons 8 (.take 9 (.all (.cons 10 .done .nil))) .nil)) .nil)) (.cons 7 (.all (.cons 1 (.all (.cons 8 (.take 9 (.all (.cons 10 .done .nil))) .nil)) (.cons 8 (.all (.cons 1 (.take 9 (.all (.cons 10 .done .nil))) .nil)) .nil))) .nil)))) .nil))))))))] f92_at rfl (by kernel_rfl) rfl (by kernel_rfl) rfl (fun i h => by cases h) rfl ?_
  intro hok
  simp only [go_sem] at hok
  simp only [Tryz.f92, Func.code, Option.getD_some]
  simp only [go_sem]
  refine call_lend ?_
  simp only [go_sem]
  refine callN.eq (ok134 r.high g1) (by simp only [go_sem]) ?_
  simp only [go_sem]
  refine call_share ?_
  simp only [go_sem]
  refine callS.eq (ok135 r.blocks (by omega)) ?_
  simp only [go_sem]
  intro hm
  refine vm_loopK (α := Nat) (fun i => [(1, .ptr true (.agg [.lit (.int .i64 r.id), .lit (.int .i64 r.n), .lit (.int .i64 r.view), .lit (.int .i64 r.voted), .lit (.int .i64 r.locked), .lit (.int .i64 r.proposed), r.high.enc true, .lst true 8 ((mixL r.blocks i).map encP), .lst false 4 (r.votes.map Vot.enc), .lst false 2 (r.news.map Nws.enc), .lst false 1 (r.done.map intA)])), (2, .ptr true (Rpl.enc true ⟨0, 0, 0, 0, 0, 0, default, [], [], [], []⟩)), (14, .lit (.int .i64 r.blocks.length)), (15, .lit (.int .i64 i))]) (fun i => i ≤ r.blocks.length) (fun i => r.blocks.length - i) 0 ?_ (by omega) (by kernel_rfl) (fun _ => rfl) ?_
  · simp only [go_sem]
    exact ⟨mixL_zero.symm, ⟨rfl, rfl, rfl, rfl⟩, rfl⟩
  · intro i hi hk
    simp only [go_sem]
    first | refine branch_ndec (fun h6 => ?_) (fun h6 => ?_) | refine branch_dec (fun h6 => ?_) (fun h6 => ?_) | refine branch_nbool (fun h6 => ?_) (fun h6 => ?_) | refine branch_split (fun h6 => ?_) (fun h6 => ?_)
    · have hlt : i < r.blocks.length := by omega
      have h0 : (0 : Int) ≤ (i : Int) := by omega
      have hml := mixL_len hi
      have hg := mixL_get hlt
      have h7 : (i : Int) < ((mixL r.blocks i).length : Int) := by omega
      have h8 : i < (mixL r.blocks i).length := by omega
      have hw3 : IntKind.i64.wrap ((i : Int) + 1) = ((i + 1 : Nat) : Int) := by rw [wrap64 (by omega) (by omega)]; omega
      simp only [go_sem, h0, h7, h8, hg]
      repeat' refine And.intro ?_ ?_
      all_goals
        refine call_lend ?_
        simp only [go_sem]
        refine callN.eq (ok123 (r.blocks.getD i default) (g3 i hlt)) (by simp only [go_sem]) ?_
        simp only [go_sem]
        simp only [go_sem, h0, h7, h8, hg, hw3]
        refine again_intro (i + 1) (by omega) (by omega) ?_
        simp only [go_sem]
        exact (modify_enc (f := encP) (v := (true, r.blocks.getD i default)) rfl).trans (by rw [mixL_set hlt])
    · have hie : i = r.blocks.length := by omega
      subst hie
      simp only [go_sem, mixL_all]
      refine call_lend ?_
      simp only [go_sem]
      refine callN.eq (ok136 r.votes (by omega)) (by simp only [go_sem]) ?_
      simp only [go_sem]
      refine call_lend ?_
      simp only [go_sem]
      refine callN.eq (ok137 r.news (by omega)) (by simp only [go_sem]) ?_
      simp only [go_sem]
      refine call_lend ?_
      simp only [go_sem]
      refine callN.eq (ok138 r.done (by omega)) (by simp only [go_sem]) ?_
      simp only [go_sem]
end Go.VS

set_option linter.unusedSimpArgs false
set_option linter.unusedVariables false
open Go.Proofs
set_option maxRecDepth 20000
namespace Go.VS
/-! ### A right block has a name -/
theorem numB_ne (n : Nat) : numB n ≠ [] := by
  unfold numB
  split <;> simp
theorem Vot.ok_of {v : Vot} {n : Int} (h : v.ok n = true) : (n = 1 ∨ n = 4 ∨ n = 7) ∧ (0 ≤ v.bY ∧ v.bY ≤ n - 1) ∧ (1 ≤ v.view ∧ v.view ≤ 100000) ∧ (0 ≤ v.name ∧ v.name ≤ 2147483646) ∧ v.tag = tagV v.bY (balB v.view v.name) := by
  simp only [Vot.ok, Bool.and_eq_true, decide_eq_true_eq] at h
  exact ⟨srv_iff.1 h.1, h.2.1, h.2.2.1, h.2.2.2.1, h.2.2.2.2⟩
theorem Prf.few {p : Prf} {n : Int} (h : ∀ j, j < p.bys.length → p.rnd n j = true) : ∀ i, i < p.bys.length → (i : Int) ≤ p.bys.getD i default
  | 0, hi => (Prf.rnd_view (h 0 hi)).2.2.1
  | i + 1, hi => by
    have ih := Prf.few h i (by omega)
    have h1 := h (i + 1) hi
    simp only [Prf.rnd, Bool.and_eq_true, Bool.not_eq_true', Bool.and_eq_false_iff, decide_eq_false_iff_not] at h1
    have h2 := h1.2
    simp only [Nat.add_sub_cancel] at h2
    rcases h2 with h2 | h2 <;> omega
theorem Prf.ok_nums {p : Prf} {n : Int} (h : p.ok n = true) : p.bys.length ≤ 7 ∧ p.bys.length = p.tags.length ∧ inR p.view ∧ inR p.name ∧ ∀ j, j < p.bys.length → inR (p.bys.getD j default) ∧ inR (p.tags.getD j default) := by
  obtain ⟨hs, h1 | ⟨hl, hr⟩⟩ := Prf.ok_cases h
  · simp only [Prf.one, decide_eq_true_eq] at h1
    obtain ⟨h2, h3, h4, h5⟩ := h1
    unfold inR
    refine ⟨by omega, by omega, by omega, by omega, fun j hj => by omega⟩
  · have h0 := Prf.len_pos hs hl
    have hn := srv_iff.1 hs
    have h7 : p.bys.length ≤ 7 := by
      have h1 := Prf.few hr (p.bys.length - 1) (by omega)
      have h2 := (Prf.rnd_view (hr (p.bys.length - 1) (by omega))).2.2.2
      omega
    have h8 := Prf.rnd_view (hr 0 h0)
    refine ⟨h7, hl.2, ⟨by omega, by omega⟩, ⟨by omega, by omega⟩, fun j hj => ?_⟩
    have h9 := Prf.rnd_view (hr j hj)
    have h10 := hr j hj
    simp only [Prf.rnd, Bool.and_eq_true] at h10
    have h11 := (Vot.ok_of h10.1).2.2.2.2
    have h12 := tagV_rng (p.bys.getD j default) (balB p.view p.name)
    simp only at h11
    refine ⟨⟨by omega, by omega⟩, ⟨by omega, by omega⟩⟩
theorem txs_ne {l : List ByteArray} (h : movesOk l = true) : txs l ≠ [] := by
  simp only [movesOk, Bool.and_eq_true, decide_eq_true_eq, Bool.not_eq_true', List.any_eq_false] at h
  have h1 : txs l = txsN l l.length := txsOk_all (by omega) fun j hj => by
    have := h.2 _ (getD_mem hj)
    simp only [mvB, decide_eq_true_eq] at this
    omega
  rw [h1, txsN]
  intro h2
  exact numB_ne _ (List.append_eq_nil_iff.1 h2).1
theorem Blk.ok_of {b : Blk} {n : Int} (h : b.ok n = true) : b.proof.ok n = true ∧ (1 ≤ b.view ∧ b.view ≤ 100000) ∧ b.proof.view < b.view ∧ b.parent = b.proof.name ∧ b.bY = b.view.tmod n ∧ movesOk b.moves = true := by
  simp only [Blk.ok, Bool.and_eq_true, decide_eq_true_eq] at h
  exact ⟨h.1, h.2.1, h.2.2.1, h.2.2.2.1, h.2.2.2.2.1, h.2.2.2.2.2⟩
theorem Blk.ok_sh {b : Blk} {n : Int} (h : b.ok n = true) : b.shOk := by
  obtain ⟨h1, h2, h3, h4, h5, h6⟩ := Blk.ok_of h
  obtain ⟨k1, k2, k3, k4, k5⟩ := Prf.ok_nums h1
  refine ⟨⟨k1, k2⟩, ?_, txs_ne h6, ?_⟩
  · have : ∀ i, i ≤ b.proof.bys.length → ∀ x ∈ shL b i, inR x := by
      intro i
      induction i with
      | zero =>
        intro _ x hx
        rw [shL_zero] at hx
        simp only [List.mem_cons, List.not_mem_nil, or_false] at hx
        rcases hx with rfl | rfl | rfl | rfl | rfl
        · exact ⟨by omega, by omega⟩
        · rw [h4]; exact k4
        · exact k3
        · exact k4
        · exact ⟨by omega, by omega⟩
      | succ i ih =>
        intro hi x hx
        rw [shL_succ] at hx
        rcases List.mem_append.1 hx with hx | hx
        · exact ih (by omega) x hx
        · simp only [List.mem_cons, List.not_mem_nil, or_false] at hx
          rcases hx with rfl | rfl
          · exact (k5 i (by omega)).1
          · exact (k5 i (by omega)).2
    exact this _ (Nat.le_refl _)
  · have hn := srv_iff.1 (Prf.ok_cases h1).1
    rw [h5]
    have h7 := Int.tmod_lt_of_pos b.view (b := n) (by omega)
    have h8 := Int.tmod_nonneg n (a := b.view) (by omega)
    exact ⟨by omega, by omega⟩
theorem Blk.sh_size {b : Blk} (h : b.shOk) : b.sh.size ≠ 0 := by
  rw [Blk.sh_yes h]
  have : b.shB ≠ [] := fun h2 => h.2.2.1 ((List.append_eq_nil_iff.1 (List.append_eq_nil_iff.1 h2).1).2)
  intro h3
  apply this
  apply List.eq_nil_of_length_eq_zero
  simpa [ByteArray.size] using h3
/-- the name that the program gives a block -/
def Blk.nmI (b : Blk) : Int := if b.sh.size = 0 then -1 else b.nm
theorem Blk.nmI_eq {b : Blk} {n : Int} (h : b.ok n = true) : b.nmI = b.nm := if_neg (Blk.sh_size (Blk.ok_sh h))

/-! ### The replica at work -/
def Rpl.pty (r : Rpl) : Pty := ⟨r, r.blocks.map Blk.nmI⟩
def Rpl.okI (r : Rpl) : Bool := r.hd && (r.hd2 && ((r.pty.bkOk && ((r.high.one || decide (0 ≤ r.pty.has r.high.name r.high.view)) && r.pty.dnOk)) && (r.votes.all (fun v => v.ok r.n) && r.news.all (nwOk r.n))))
section
variable {r : Rpl}
theorem getD_map {α β : Type} [Inhabited α] [Inhabited β] {f : α → β} {xs : List α} {i : Nat} (h : i < xs.length) : (xs.map f).getD i default = f (xs.getD i default) := by
  simp [List.getD, h]
theorem Rpl.names_eq (h : ∀ i, i < r.blocks.length → (r.blocks.getD i default).ok r.n = true) : r.blocks.map Blk.nmI = r.blocks.map Blk.nm :=
  List.map_congr_left fun b hb => by
    obtain ⟨j, hj, rfl⟩ := List.mem_iff_getElem.1 hb
    rw [getElem_D hj]
    exact Blk.nmI_eq (h j hj)
/-- a name is found at its first place -/
theorem idxOf_first {xs : List Int} {n : Int} {i : Nat} (hi : i < xs.length) : idxOf (isI n) xs = (i : Int) ↔ xs.getD i default = n ∧ ∀ k, k < i → xs.getD k default ≠ n := by
  constructor
  · intro h
    have h1 : xs.any (isI n) = true := idxOf_nonneg.1 (by omega)
    simp only [idxOf, h1, if_true] at h
    have h2 : xs.findIdx (isI n) = i := by omega
    have h3 := (List.findIdx_eq (p := isI n) hi).1 h2
    refine ⟨?_, fun k hk => ?_⟩
    · have := h3.1
      rw [getElem_D hi] at this
      simp only [isI, decide_eq_true_eq] at this
      exact this.symm
    · have := h3.2 k hk
      rw [getElem_D (by omega)] at this
      simp only [isI, decide_eq_false_iff_not] at this
      exact fun h => this h.symm
  · rintro ⟨h1, h2⟩
    refine idxOf_hit (fun x hx => ?_) hi ?_
    · obtain ⟨j, hj, rfl⟩ := List.mem_iff_getElem.1 hx
      rw [List.length_take] at hj
      rw [List.getElem_take, getElem_D (by omega)]
      have := h2 j (by omega)
      simp only [isI, decide_eq_false_iff_not]
      exact fun h => this h.symm
    · rw [getElem_D hi, h1]
      simp [isI]
/-- the names of all blocks are told apart -/
def Rpl.apart (r : Rpl) : Prop := ∀ i k, i < r.blocks.length → k < i → (r.blocks.getD k default).nm ≠ (r.blocks.getD i default).nm
theorem Rpl.apart_eq (h : r.apart) {i k : Nat} (hi : i < r.blocks.length) (hk : k < r.blocks.length) (he : (r.blocks.getD k default).nm = (r.blocks.getD i default).nm) : k = i := by
  rcases Nat.lt_trichotomy k i with h1 | h1 | h1
  · exact absurd he (h i k hi h1)
  · exact h1
  · exact absurd he.symm (h k i hk h1)
section
variable (hb : ∀ i, i < r.blocks.length → (r.blocks.getD i default).ok r.n = true)
include hb
theorem Rpl.fnd_at {i : Nat} (hi : i < r.blocks.length) {n : Int} : r.pty.fnd n = (i : Int) ↔ (r.blocks.getD i default).nm = n ∧ ∀ k, k < i → (r.blocks.getD k default).nm ≠ n := by
  unfold Pty.fnd Rpl.pty
  simp only
  rw [Rpl.names_eq hb, idxOf_first (by simpa using hi), getD_map hi]
  refine and_congr .rfl ⟨fun h k hk => ?_, fun h k hk => ?_⟩
  · have := h k hk
    rwa [getD_map (by omega)] at this
  · have := h k hk
    rwa [getD_map (by omega)]
theorem Rpl.fnd_of (ha : r.apart) {i : Nat} (hi : i < r.blocks.length) : r.pty.fnd (r.blocks.getD i default).nm = (i : Int) :=
  (Rpl.fnd_at hb hi).2 ⟨rfl, fun k hk => ha i k hi hk⟩
theorem Rpl.fnd_name {n : Int} (h : 0 ≤ r.pty.fnd n) : ∃ i, i < r.blocks.length ∧ r.pty.fnd n = (i : Int) ∧ (r.blocks.getD i default).nm = n := by
  obtain ⟨i, hi⟩ := Int.eq_ofNat_of_zero_le h
  have hr := (idxOf_rng (isI n) r.pty.names).2
  have hl : r.pty.names.length = r.blocks.length := by simp [Rpl.pty]
  have hd : r.pty.fnd n = idxOf (isI n) r.pty.names := rfl
  have hil : i < r.blocks.length := by omega
  exact ⟨i, hil, hi, ((Rpl.fnd_at hb hil).1 hi).1⟩
/-- a block with a name and a view is among the first m -/
theorem Rpl.has_any (ha : r.apart) {n v : Int} {m : Nat} (hm : m ≤ r.blocks.length) : (0 ≤ r.pty.has n v ∧ r.pty.has n v < (m : Int)) ↔ (r.blocks.take m).any (fndP n v) = true := by
  rw [List.any_eq_true]
  constructor
  · rintro ⟨h1, h2⟩
    unfold Pty.has at h1 h2
    split at h1
    · omega
    · rename_i hc
      rw [if_neg hc] at h2
      obtain ⟨i, hi, he, hn⟩ := Rpl.fnd_name hb h1
      refine ⟨r.blocks.getD i default, ?_, ?_⟩
      · rw [← getElem_D hi]
        rw [List.mem_take_iff_getElem]
        exact ⟨i, by omega, rfl⟩
      · simp only [fndP, Bool.and_eq_true, decide_eq_true_eq]
        refine ⟨?_, hn⟩
        have h3 : ¬ ¬ (r.blocks.getD (r.pty.fnd n).toNat default).view = v := fun h => hc ⟨h1, h⟩
        rw [he, Int.toNat_natCast] at h3
        exact Decidable.of_not_not h3
  · rintro ⟨b, hbm, hp⟩
    obtain ⟨i, hi, rfl⟩ := List.mem_take_iff_getElem.1 hbm
    have hil : i < r.blocks.length := by omega
    rw [getElem_D hil] at hp
    simp only [fndP, Bool.and_eq_true, decide_eq_true_eq] at hp
    have h1 := Rpl.fnd_of hb ha hil
    rw [hp.2] at h1
    have h2 : r.pty.has n v = (i : Int) := by
      unfold Pty.has
      rw [h1, Int.toNat_natCast]
      have : (r.pty.r.blocks.getD i default).view = v := hp.1
      rw [if_neg (fun h => h.2 this)]
    rw [h2]
    omega
theorem Rpl.knw_eq (ha : r.apart) {i : Nat} (hi : i < r.blocks.length) : r.pty.knw (r.blocks.getD i default) i = knwB (r.blocks.take i) (r.blocks.getD i default).proof := by
  have h1 := (Blk.ok_of (hb i hi)).2.2.2.1
  have h2 := Rpl.has_any hb ha (n := (r.blocks.getD i default).proof.name) (v := (r.blocks.getD i default).proof.view) (m := i) (by omega)
  unfold Pty.knw knwB
  rw [h1]
  have e1 : (decide ((r.blocks.getD i default).proof.name = 0) && (r.blocks.getD i default).proof.one) = (r.blocks.getD i default).proof.one := by
    cases h : (r.blocks.getD i default).proof.one
    · simp
    · simp only [Prf.one, decide_eq_true_eq] at h
      rw [decide_eq_true h.2.1]
      rfl
  rw [e1]
  congr 1
  rw [Bool.eq_iff_iff, Bool.and_eq_true, decide_eq_true_eq, decide_eq_true_eq]
  exact h2
theorem Rpl.high_eq (ha : r.apart) : (r.high.one || decide (0 ≤ r.pty.has r.high.name r.high.view)) = knwB r.blocks r.high := by
  unfold knwB
  congr 1
  rw [Bool.eq_iff_iff, decide_eq_true_eq]
  have h := Rpl.has_any hb ha (n := r.high.name) (v := r.high.view) (m := r.blocks.length) (Nat.le_refl _)
  rw [List.take_length] at h
  rw [← h]
  refine ⟨fun h1 => ⟨h1, ?_⟩, fun h1 => h1.1⟩
  unfold Pty.has at h1 ⊢
  split
  · omega
  · rename_i hc
    rw [if_neg hc] at h1
    obtain ⟨i, hi, he, _⟩ := Rpl.fnd_name hb h1
    omega
end
/-- of a block that is done: where the reference finds it -/
theorem lastN_one {p : Blk → Bool} {xs : List Blk} {i : Nat} (hp : p (xs.getD i default) = true) (hu : ∀ k, k < xs.length → p (xs.getD k default) = true → k = i) : ∀ m, i < m → m ≤ xs.length → lastN p xs m = (i : Int)
  | 0, h, _ => by omega
  | m + 1, h, hm => by
    unfold lastN
    by_cases hmi : m = i
    · subst hmi
      rw [if_pos hp]
    · rw [if_neg (fun h2 => hmi (hu m (by omega) h2))]
      exact lastN_one hp hu m (by omega) (by omega)
theorem lastN_hit {p : Blk → Bool} {xs : List Blk} : ∀ m, m ≤ xs.length → 0 ≤ lastN p xs m → ∃ i, i < xs.length ∧ lastN p xs m = (i : Int) ∧ p (xs.getD i default) = true
  | 0, _, h => by simp [lastN] at h
  | m + 1, hm, h => by
    unfold lastN at h ⊢
    split
    · rename_i hp
      exact ⟨m, by omega, rfl, hp⟩
    · rename_i hp
      rw [if_neg hp] at h
      exact lastN_hit m (by omega) h
/-- what is known behind the first of what is done -/
def Rpl.dnI (r : Rpl) (i : Nat) (v : Int) : Prop := (i = 0 ∧ v = 0) ∨ ∃ m, m < r.blocks.length ∧ (r.blocks.getD m default).nm = r.pty.par i ∧ (r.blocks.getD m default).view = v
section
variable (hb : ∀ i, i < r.blocks.length → (r.blocks.getD i default).ok r.n = true) (ha : r.apart) (hk : ∀ i, i < r.blocks.length → knwB (r.blocks.take i) (r.blocks.getD i default).proof = true)
include hb ha hk
theorem Rpl.dn_view {i m : Nat} {v : Int} (hI : r.dnI i v) (hm : m < r.blocks.length) (hp : (r.blocks.getD m default).parent = r.pty.par i) : (r.blocks.getD m default).proof.view = v := by
  have h1 := (Blk.ok_of (hb m hm)).2.2.2.1
  have h2 := hk m hm
  have hnm : ∀ k, 1 ≤ (r.blocks.getD k default).nm := fun k => (Blk.nm_rng _).1
  simp only [knwB, Bool.or_eq_true] at h2
  rcases hI with ⟨rfl, rfl⟩ | ⟨m', hm', h3, h4⟩
  · have h5 : r.pty.par 0 = 0 := rfl
    rcases h2 with h2 | h2
    · simp only [Prf.one, decide_eq_true_eq] at h2
      exact h2.1
    · obtain ⟨b, hbm, hq⟩ := List.any_eq_true.1 h2
      simp only [fndP, Bool.and_eq_true, decide_eq_true_eq] at hq
      have := (Blk.nm_rng b).1
      omega
  · have h5 := hnm m'
    rcases h2 with h2 | h2
    · simp only [Prf.one, decide_eq_true_eq] at h2
      omega
    · obtain ⟨b, hbm, hq⟩ := List.any_eq_true.1 h2
      obtain ⟨k, hk2, rfl⟩ := List.mem_take_iff_getElem.1 hbm
      have hkl : k < r.blocks.length := by omega
      rw [getElem_D hkl] at hq
      simp only [fndP, Bool.and_eq_true, decide_eq_true_eq] at hq
      have : k = m' := Rpl.apart_eq ha hm' hkl (by rw [hq.2, h3, ← hp, h1])
      subst this
      rw [← h4, hq.1]
theorem Rpl.dn_step {i : Nat} {v : Int} (hI : r.dnI i v) :
    (r.pty.dnR i = true → ∃ v', dnS r.blocks (r.done.getD i default) (some (r.pty.par i, v)) = some (r.pty.par (i + 1), v') ∧ r.dnI (i + 1) v') ∧
    (r.pty.dnR i = false → dnS r.blocks (r.done.getD i default) (some (r.pty.par i, v)) = none) := by
  constructor
  · intro h
    simp only [Pty.dnR, Bool.and_eq_true, decide_eq_true_eq] at h
    obtain ⟨h1, h2⟩ := h
    obtain ⟨m, hm, he, hn⟩ := Rpl.fnd_name hb (r := r) (n := r.done.getD i default) h1
    have h3 : r.pty.fnd (r.pty.r.done.getD i default) = (m : Int) := he
    rw [h3, Int.toNat_natCast] at h2
    have h4 : (r.blocks.getD m default).parent = r.pty.par i := h2
    have h5 := Rpl.dn_view hb ha hk hI hm h4
    have h6 := lastN_one (p := lnkP (r.done.getD i default) (r.pty.par i) v) (xs := r.blocks) (i := m) (by simp only [lnkP, hn, h4, h5, decide_true, Bool.and_self]) (fun k hk2 hp => by
      simp only [lnkP, Bool.and_eq_true, decide_eq_true_eq] at hp
      exact Rpl.apart_eq ha hm hk2 (by rw [hp.1, hn])) r.blocks.length hm (Nat.le_refl _)
    refine ⟨(r.blocks.getD m default).view, ?_, .inr ⟨m, hm, hn, rfl⟩⟩
    unfold dnS
    simp only [h6, Int.toNat_natCast]
    rw [if_neg (by omega)]
    rfl
  · intro h
    unfold dnS
    simp only
    by_cases h1 : lastN (lnkP (r.done.getD i default) (r.pty.par i) v) r.blocks r.blocks.length < 0
    · rw [if_pos h1]
    · exfalso
      have h9 : 0 ≤ lastN (lnkP (r.done.getD i default) (r.pty.par i) v) r.blocks r.blocks.length := by omega
      obtain ⟨m, hm, he, hp⟩ := lastN_hit _ (Nat.le_refl _) h9
      simp only [lnkP, Bool.and_eq_true, decide_eq_true_eq] at hp
      have h2 := Rpl.fnd_of hb ha hm
      rw [hp.1] at h2
      have h3 : r.pty.fnd (r.pty.r.done.getD i default) = (m : Int) := h2
      have h4 : (r.pty.r.blocks.getD m default).parent = r.pty.par i := hp.2.1
      rw [Pty.dnR, h3, Int.toNat_natCast, decide_eq_true h4, decide_eq_true (by omega)] at h
      cases h
theorem Rpl.dn_all : ∀ i, i ≤ r.done.length → (∃ v, dnN r.blocks r.done i = some (r.pty.par i, v) ∧ r.dnI i v ∧ ∀ j, j < i → r.pty.dnR j = true) ∨ (dnN r.blocks r.done i = none ∧ ∃ j, j < i ∧ r.pty.dnR j = false)
  | 0, _ => .inl ⟨0, rfl, .inl ⟨rfl, rfl⟩, fun j hj => by omega⟩
  | i + 1, hi => by
    rcases Rpl.dn_all i (by omega) with ⟨v, h1, h2, h3⟩ | ⟨h1, j, hj, h2⟩
    · have h4 := Rpl.dn_step hb ha hk h2
      cases h : r.pty.dnR i
      · exact .inr ⟨by rw [dnN, h1]; exact h4.2 h, i, by omega, h⟩
      · obtain ⟨v', h5, h6⟩ := h4.1 h
        exact .inl ⟨v', by rw [dnN, h1]; exact h5, h6, nx h3 h⟩
    · exact .inr ⟨by rw [dnN, h1]; rfl, j, by omega, h2⟩
theorem Rpl.dn_eq : r.pty.dnOk = dnB r.blocks r.done := by
  unfold dnB
  rcases Rpl.dn_all hb ha hk r.done.length (Nat.le_refl _) with ⟨v, h1, _, h3⟩ | ⟨h1, j, hj, h2⟩
  · rw [h1]
    exact List.all_eq_true.2 fun x hx => h3 x (List.mem_range.1 hx)
  · rw [h1]
    exact Pty.dn_bad (p := r.pty) hj h2
end
theorem Rpl.bkR_eq (hb : ∀ i, i < r.blocks.length → (r.blocks.getD i default).ok r.n = true) (ha : r.apart) {i : Nat} (hi : i < r.blocks.length) : r.pty.bkR i = r.bk i := by
  have h1 : r.pty.names.getD i default = (r.blocks.getD i default).nm := by
    show (r.blocks.map Blk.nmI).getD i default = _
    rw [Rpl.names_eq hb, getD_map hi]
  have h2 : ((List.range i).all fun k => !decide ((r.blocks.getD k default).nm = (r.blocks.getD i default).nm)) = true := List.all_eq_true.2 fun k hk => by
    rw [decide_eq_false (ha i k hi (List.mem_range.1 hk))]
    rfl
  rw [Pty.bkR, h1, Rpl.fnd_of hb ha hi, Rpl.bk, h2, Bool.and_true, decide_eq_true rfl, Bool.true_and]
  have h3 := Rpl.knw_eq hb ha hi
  exact congrArg (fun x => (r.blocks.getD i default).ok r.n && x) h3
theorem range_all {n : Nat} {f : Nat → Bool} : (List.range n).all f = true ↔ ∀ i, i < n → f i = true := by
  simp only [List.all_eq_true, List.mem_range]
theorem range_all_congr {n : Nat} {f g : Nat → Bool} (h : ∀ i, i < n → f i = g i) : (List.range n).all f = (List.range n).all g := by
  rw [Bool.eq_iff_iff, range_all, range_all]
  exact ⟨fun k i hi => (h i hi) ▸ k i hi, fun k i hi => (h i hi).symm ▸ k i hi⟩
/-- **The program and the reference ask the same of a replica.** -/
theorem Rpl.law (r : Rpl) : r.okI = r.ok := by
  unfold Rpl.okI Rpl.ok
  congr 1
  cases h2 : r.hd2
  · rfl
  have h60 : r.blocks.length ≤ 60 := by
    simp only [Rpl.hd2, Bool.and_eq_true, decide_eq_true_eq] at h2
    exact h2.2.1
  have hbk : r.pty.bkOk = (List.range r.blocks.length).all r.pty.bkR := by
    show (decide (r.blocks.length ≤ 60) && _) = _
    rw [decide_eq_true h60, Bool.true_and]
    rfl
  rw [hbk, Bool.true_and, Bool.true_and]
  by_cases hb : ∀ i, i < r.blocks.length → (r.blocks.getD i default).ok r.n = true
  rotate_left
  · have h3 : ∃ i, i < r.blocks.length ∧ (r.blocks.getD i default).ok r.n = false := Classical.byContradiction fun h => hb fun i hi => by
      cases hq : (r.blocks.getD i default).ok r.n
      · exact absurd ⟨i, hi, hq⟩ h
      · rfl
    obtain ⟨i, hi, hq⟩ := h3
    have e1 : (List.range r.blocks.length).all r.pty.bkR = false := List.all_eq_false.2 ⟨i, List.mem_range.2 hi, by
      have : (r.pty.r.blocks.getD i default).ok r.pty.r.n = false := hq
      rw [Pty.bkR, this]
      simp⟩
    have e2 : (List.range r.blocks.length).all r.bk = false := List.all_eq_false.2 ⟨i, List.mem_range.2 hi, by rw [Rpl.bk, hq]; simp⟩
    rw [e1, e2]
    rfl
  by_cases ha : r.apart
  rotate_left
  · have h3 : ∃ i k, i < r.blocks.length ∧ k < i ∧ (r.blocks.getD k default).nm = (r.blocks.getD i default).nm := Classical.byContradiction fun h => ha fun i k hi hk he => h ⟨i, k, hi, hk, he⟩
    obtain ⟨i, k, hi, hk, hq⟩ := h3
    have e1 : (List.range r.blocks.length).all r.pty.bkR = false := List.all_eq_false.2 ⟨i, List.mem_range.2 hi, by
      have h1 : r.pty.names.getD i default = (r.blocks.getD i default).nm := by
        show (r.blocks.map Blk.nmI).getD i default = _
        rw [Rpl.names_eq hb, getD_map hi]
      have h4 : ¬ r.pty.fnd (r.blocks.getD i default).nm = (i : Int) := fun h => ((Rpl.fnd_at hb hi).1 h).2 k hk hq
      rw [Pty.bkR, h1, decide_eq_false h4]
      simp⟩
    have e2 : (List.range r.blocks.length).all r.bk = false := List.all_eq_false.2 ⟨i, List.mem_range.2 hi, by
      have : ((List.range i).all fun k => !decide ((r.blocks.getD k default).nm = (r.blocks.getD i default).nm)) = false := List.all_eq_false.2 ⟨k, List.mem_range.2 hk, by rw [decide_eq_true hq]; decide⟩
      rw [Rpl.bk, this]
      simp⟩
    rw [e1, e2]
    rfl
  rw [range_all_congr (g := r.bk) fun i hi => Rpl.bkR_eq hb ha hi]
  cases hq : (List.range r.blocks.length).all r.bk
  · rfl
  have hk : ∀ i, i < r.blocks.length → knwB (r.blocks.take i) (r.blocks.getD i default).proof = true := fun i hi => by
    have := range_all.1 hq i hi
    simp only [Rpl.bk, Bool.and_eq_true] at this
    exact this.2.1
  rw [Rpl.high_eq hb ha, Rpl.dn_eq hb ha hk, Bool.true_and, Bool.true_and]
  cases r.votes.all (fun v => v.ok r.n) <;> cases r.news.all (nwOk r.n) <;> simp
end
end Go.VS

set_option linter.unusedSimpArgs false
set_option linter.unusedVariables false
open Go.Proofs
set_option maxRecDepth 20000
namespace Go.VS
theorem f55_at : gz.P.funcs[55]? = some Tryz.f55 := by
  have h : Tryz.prog.funcs[55]? = some Tryz.f55 := by kernel_rfl
  exact h
theorem ok55 (r : Rpl) (hr : r.hold) : VCalls gz 55 [r.enc false] none (fun y _ => y = .ptr true (r.pty.enc true)) := by
  have hb2 := hr.2.1
  refine VCalls.go (nt := 30) (keep := [0, 1, 2, 3, 5, 11, 12, 13, 14]) (muts := []) (mvs := []) [(5, .tree false (.take 0 (.take 1 (.take 2 (.take 3 (.all (.cons 4 (.all (.cons 5 (.all (.cons 6 (.all (.cons 7 (.all (.cons 8 (.take 9 (.take 10 (.all (.cons 11 .done .nil)))) .nil)) .nil)) .nil)) .nil)) (.cons 5 (.all (.cons 4 (.all (.cons 6 (.all (.cons 7 (.all (.cons 8 (.take 9 (.take 10 (.all (.cons 11 .done .nil)))) .nil)) .nil)) .nil)) (.cons 6 (.all (.cons 4 (.all (.cons 7 (.all (.cons 8 (.take 9 (.take 10 (.all (.cons 11 .done .nil)))) .nil)) .nil)) (.cons 7 (.all (.cons 4 (.all (.cons 8 (.take 9 (.take 10 (.all (.cons 11 .done .nil)))) .nil)) .nil)) .nil))) .nil))) .nil))))))))] f55_at rfl (by kernel_rfl) rfl (by kernel_rfl) rfl (fun i h => by cases h) rfl ?_
  intro hok
  simp only [go_sem] at hok
  simp only [Tryz.f55, Func.code, Option.getD_some]
  simp only [go_sem]
  refine call_lend ?_
  simp only [go_sem]
  refine callN.eq (ok92 r hr) (by simp only [go_sem]) ?_
  simp only [go_sem]
  intro hm
  refine vm_loopK (α := Nat) (fun i => [(1, .ptr true (r.enc false)), (3, .ptr true (Pty.enc true ⟨r, (r.blocks.take i).map Blk.nmI⟩)), (11, .lst false 8 (r.blocks.map (Blk.enc false))), (12, .lit (.int .i64 r.blocks.length)), (13, .lit (.int .i64 i))]) (fun i => i ≤ r.blocks.length) (fun i => r.blocks.length - i) 0 ?_ (by omega) (by kernel_rfl) (fun _ => rfl) ?_
  · simp only [go_sem]
    try rfl
  · intro i hi hk
    simp only [go_sem]
    first | refine branch_ndec (fun h6 => ?_) (fun h6 => ?_) | refine branch_dec (fun h6 => ?_) (fun h6 => ?_) | refine branch_nbool (fun h6 => ?_) (fun h6 => ?_) | refine branch_split (fun h6 => ?_) (fun h6 => ?_)
    · have hlt : i < r.blocks.length := by omega
      have h0 : (0 : Int) ≤ (i : Int) := by omega
      have hw3 : IntKind.i64.wrap ((i : Int) + 1) = ((i + 1 : Nat) : Int) := by rw [wrap64 (by omega) (by omega)]; omega
      simp only [go_sem, h0, hlt, h6]
      repeat' refine And.intro ?_ ?_
      all_goals
        refine call_lend ?_
        simp only [go_sem]
        refine callN.eq (ok88 (r.blocks.getD i default)) (by simp only [go_sem]) ?_
        simp only [go_sem]
        have hlk : (r.blocks.take i).length = i := by rw [List.length_take]; omega
        refine ⟨by omega, ?_⟩
        rw [hw3]
        refine again_intro (i + 1) (by omega) (by omega) ?_
        simp only [go_sem]
        rw [take_succ_getD hlt, List.map_append, List.map_append, List.take_of_length_le (by simp)]
        rfl
    · have hie : i = r.blocks.length := by omega
      subst hie
      simp only [go_sem]
      simp only [Rpl.pty, List.take_length, and_self]
end Go.VS
