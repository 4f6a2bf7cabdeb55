/- VS: functions by the machine. -/
import Derived.Test.YtdbfhpndlocilaaGreatDoorVj
import Derived.Test.YtdbfhpndlocilaaGreatDoorVr
import Derived.Test.YtdbfhpndlocilaaGreatDoorVi
set_option linter.unusedSimpArgs false
set_option linter.unusedVariables false
open Go.Proofs
set_option maxRecDepth 20000
namespace Go.VS
theorem f59_at : gz.P.funcs[59]? = some Tryz.f59 := by
  have h : Tryz.prog.funcs[59]? = some Tryz.f59 := by kernel_rfl
  exact h
theorem f114_at : gz.P.funcs[114]? = some Tryz.f114 := by
  have h : Tryz.prog.funcs[114]? = some Tryz.f114 := by kernel_rfl
  exact h
def nmB (d : Int) (b : Blk) : Bool := decide (b.nm = d)
def Rpl.chN (r : Rpl) : Nat → List Blk
  | 0 => []
  | i + 1 => r.chN i ++ r.blocks.filter (nmB (r.done.getD i default))
theorem Rpl.chN_len (r : Rpl) : ∀ i, (r.chN i).length ≤ i * r.blocks.length
  | 0 => by simp [Rpl.chN]
  | i + 1 => by
    have h1 := Rpl.chN_len r i
    have h2 := List.length_filter_le (nmB (r.done.getD i default)) r.blocks
    rw [Rpl.chN, List.length_append, Nat.add_mul, Nat.one_mul]
    omega
theorem filter_take {α : Type} [Inhabited α] {p : α → Bool} {xs : List α} {k : Nat} (h : k < xs.length) : (xs.take (k + 1)).filter p = (xs.take k).filter p ++ (if p (xs.getD k default) = true then [xs.getD k default] else []) := by
  rw [take_succ_getD h, List.filter_append]
  congr 1
  cases hp : p (xs.getD k default) <;> simp only [List.filter_cons, hp, List.filter_nil, if_true, if_false, Bool.false_eq_true]
set_option maxHeartbeats 2000000 in
theorem ok59 (r : Rpl) (hr : r.hold) : VCalls gz 59 [r.enc false] none (fun y _ => y = .lst true 8 ((r.chN r.done.length).map (Blk.enc true))) := by
  obtain ⟨g1, g2, g3, g4, g5, g6⟩ := hr
  refine VCalls.go (nt := 43) (keep := [0, 1, 2, 3, 4, 5, 11, 18, 32]) (muts := []) (mvs := []) [(8, .tree true (.take 0 (.take 1 (.take 2 (.take 3 (.take 4 (.take 6 (.take 7 (.take 8 (.take 9 (.take 10 (.all (.cons 5 (.take 11 .done) .nil)))))))))))))] f59_at rfl (by kernel_rfl) rfl (by kernel_rfl) rfl (fun i h => by cases h) rfl ?_
  intro hok
  simp only [go_sem] at hok
  simp only [Tryz.f59, Func.code, Option.getD_some]
  simp only [go_sem]
  refine vm_loopK (α := Nat) (fun i => [(1, .ptr true (r.enc false)), (3, .lst true 8 ((r.chN i).map (Blk.enc true))), (4, .lit (.int .i64 i))]) (fun i => i ≤ r.done.length) (fun i => r.done.length - i) 0 ?_ (by omega) (by kernel_rfl) (fun _ => rfl) ?_
  · simp only [go_sem]
    exact ⟨rfl, rfl⟩
  · intro i hi hk
    simp only [go_sem]
    intro _
    first | refine branch_ndec (fun h6 => ?_) (fun h6 => ?_) | refine branch_dec (fun h6 => ?_) (fun h6 => ?_) | refine branch_nbool (fun h6 => ?_) (fun h6 => ?_) | refine branch_split (fun h6 => ?_) (fun h6 => ?_)
    rotate_left
    · have hie : i = r.done.length := by omega
      subst hie
      simp only [go_sem]
      try trivial
    have hlt : i < r.done.length := by omega
    have h0 : (0 : Int) ≤ (i : Int) := by omega
    have hw3 : IntKind.i64.wrap ((i : Int) + 1) = ((i + 1 : Nat) : Int) := by rw [wrap64 (by omega) (by omega)]; omega
    have hcl := r.chN_len i
    have hcl2 : i * r.blocks.length ≤ 1048576 * 1048576 := Nat.mul_le_mul (by omega) g2
    simp only [go_sem]
    refine vm_loopK (α := Nat) (fun k => [(1, .ptr true (r.enc false)), (3, .lst true 8 ((r.chN i ++ (r.blocks.take k).filter (nmB (r.done.getD i default))).map (Blk.enc true))), (4, .lit (.int .i64 i)), (5, .lit (.int .i64 k))]) (fun k => k ≤ r.blocks.length) (fun k => r.blocks.length - k) 0 ?_ (by omega) (by kernel_rfl) (fun _ => rfl) ?_
    · simp only [go_sem, List.take_zero, List.filter_nil, List.append_nil]
      try trivial
    · intro k hk2 hkk
      simp only [go_sem]
      intro _
      first | refine branch_ndec (fun h8 => ?_) (fun h8 => ?_) | refine branch_dec (fun h8 => ?_) (fun h8 => ?_) | refine branch_nbool (fun h8 => ?_) (fun h8 => ?_) | refine branch_split (fun h8 => ?_) (fun h8 => ?_)
      rotate_left
      · have hke : k = r.blocks.length := by omega
        subst hke
        simp only [go_sem, hw3]
        refine again_intro (i + 1) (by omega) (by omega) ?_
        simp only [go_sem, Rpl.chN, List.take_length]
        try trivial
      have hlt2 : k < r.blocks.length := by omega
      have h02 : (0 : Int) ≤ (k : Int) := by omega
      have hw4 : IntKind.i64.wrap ((k : Int) + 1) = ((k + 1 : Nat) : Int) := by rw [wrap64 (by omega) (by omega)]; omega
      have hft := filter_take (p := nmB (r.done.getD i default)) hlt2
      have hfl := List.length_filter_le (nmB (r.done.getD i default)) (r.blocks.take k)
      have hfl2 : (r.blocks.take k).length ≤ k := by rw [List.length_take]; omega
      simp only [go_sem, h02, hlt2, h8, h0, hlt, h6]
      repeat' refine And.intro ?_ ?_
      all_goals
        refine call_lend ?_
        simp only [go_sem]
        refine callN.eq (ok93 (r.blocks.getD k default)) (by simp only [go_sem]) ?_
        simp only [go_sem]
        by_cases h9 : (r.blocks.getD k default).nm = r.done.getD i default
        · rw [if_pos (by rw [nmB, decide_eq_true h9])] at hft
          simp only [go_sem, eq_true h9, h02, hlt2, h8, h0, hlt, h6]
          refine call_lend ?_
          simp only [go_sem]
          refine callN.eq (ok96 (r.blocks.getD k default) (g3 k hlt2)) (by simp only [go_sem]) ?_
          simp only [go_sem]
          refine ⟨by omega, ?_⟩
          simp only [go_sem, hw4]
          refine again_intro (k + 1) (by omega) (by omega) ?_
          simp only [go_sem, hft]
          rw [List.take_of_length_le (by simp only [List.length_append, List.length_map, List.length_cons, List.length_nil]; omega), List.append_assoc]
          try rfl
        · rw [if_neg (by rw [nmB, decide_eq_false h9]; decide), List.append_nil] at hft
          simp only [go_sem, h9, hw4]
          refine again_intro (k + 1) (by omega) (by omega) ?_
          simp only [go_sem, hft]
          try trivial
def Rpl.ch (r : Rpl) : List Blk := if r.ok = true then r.chN r.done.length else []
def Pty.agB (p : Pty) (d : Int) : Blk := p.r.blocks.getD (p.fnd d).toNat default
set_option maxHeartbeats 2000000 in
theorem ok114 (p : Pty) (hl : p.names.length = p.r.blocks.length) (hr : p.r.hold) (hf : ∀ i, i < p.r.done.length → 0 ≤ p.fnd (p.r.done.getD i default)) : VCalls gz 114 [.ptr false (p.enc false)] none (fun y _ => y = .lst true 8 ((p.r.done.map p.agB).map (Blk.enc true))) := by
  obtain ⟨g1, g2, g3, g4, g5, g6⟩ := hr
  refine VCalls.go (nt := 33) (keep := [0, 2, 3, 5, 11, 12, 13, 14]) (muts := []) (mvs := []) [(5, .tree false (.take 0 (.take 1 (.take 2 (.take 3 (.take 4 (.take 6 (.take 7 (.all (.cons 5 (.all (.cons 8 (.take 9 (.all (.cons 10 (.all (.cons 11 (.all (.cons 12 (.all (.cons 13 (.all (.cons 14 .done .nil)) .nil)) .nil)) .nil)) .nil))) .nil)) (.cons 8 (.all (.cons 5 (.take 9 (.all (.cons 10 (.all (.cons 11 (.all (.cons 12 (.all (.cons 13 (.all (.cons 14 .done .nil)) .nil)) .nil)) .nil)) .nil))) .nil)) .nil)))))))))))] f114_at rfl (by kernel_rfl) rfl (by kernel_rfl) rfl (fun i h => by cases h) rfl ?_
  intro hok
  simp only [go_sem] at hok
  simp only [Tryz.f114, Func.code, Option.getD_some]
  simp only [go_sem]
  intro hm
  refine vm_loopK (α := Nat) (fun i => [(0, .ptr false (p.enc false)), (3, .lst true 8 (((p.r.done.take i).map p.agB).map (Blk.enc true))), (11, .lst false 1 (p.r.done.map intA)), (12, .lit (.int .i64 p.r.done.length)), (13, .lit (.int .i64 i))]) (fun i => i ≤ p.r.done.length) (fun i => p.r.done.length - i) 0 ?_ (by omega) (by kernel_rfl) (fun _ => rfl) ?_
  · simp only [go_sem]
    try rfl
  · intro i hi hk
    simp only [go_sem]
    first | refine branch_ndec (fun h6 => ?_) (fun h6 => ?_) | refine branch_dec (fun h6 => ?_) (fun h6 => ?_) | refine branch_nbool (fun h6 => ?_) (fun h6 => ?_) | refine branch_split (fun h6 => ?_) (fun h6 => ?_)
    rotate_left
    · have hie : i = p.r.done.length := by omega
      subst hie
      simp only [go_sem]
      rw [List.take_of_length_le (by simp)]
    have hlt : i < p.r.done.length := by omega
    have h0 : (0 : Int) ≤ (i : Int) := by omega
    have hw3 : IntKind.i64.wrap ((i : Int) + 1) = ((i + 1 : Nat) : Int) := by rw [wrap64 (by omega) (by omega)]; omega
    obtain ⟨f, hfe⟩ := Int.eq_ofNat_of_zero_le (hf i hlt)
    have hrg := (idxOf_rng (isI (p.r.done.getD i default)) p.names).2
    have hd : p.fnd (p.r.done.getD i default) = idxOf (isI (p.r.done.getD i default)) p.names := rfl
    have h2 : (0 : Int) ≤ (f : Int) := by omega
    have h3 : (f : Int) < (p.r.blocks.length : Int) := by omega
    have h4 : f < p.r.blocks.length := by omega
    have hag : p.agB (p.r.done.getD i default) = p.r.blocks.getD f default := by rw [Pty.agB, hfe, Int.toNat_natCast]
    have hlk : (p.r.done.take i).length = i := by rw [List.length_take]; omega
    simp only [go_sem, h0, hlt, h6]
    repeat' refine And.intro ?_ ?_
    all_goals
      refine call_lend ?_
      simp only [go_sem]
      refine callN.eq (ok139 p (p.r.done.getD i default)) (by simp only [go_sem]) ?_
      simp only [go_sem]
      simp only [go_sem, ← hd, hfe, h2, h3, h4]
      refine call_lend ?_
      simp only [go_sem]
      refine callN.eq (ok148 (p.r.blocks.getD f default) (g3 f h4)) (by simp only [go_sem]) ?_
      simp only [go_sem]
      refine ⟨by omega, ?_⟩
      rw [hw3]
      refine again_intro (i + 1) (by omega) (by omega) ?_
      simp only [go_sem]
      rw [take_succ_getD hlt, List.map_append, List.map_append, List.take_of_length_le (by simp), List.map_cons, hag]
      try rfl
theorem filter_one {α : Type} [Inhabited α] {p : α → Bool} {xs : List α} {m : Nat} (hm : m < xs.length) (hp : p (xs.getD m default) = true) (hu : ∀ k, k < xs.length → p (xs.getD k default) = true → k = m) : xs.filter p = [xs.getD m default] := by
  have e : xs = xs.take m ++ xs.getD m default :: xs.drop (m + 1) := by
    rw [← getElem_D hm, ← List.drop_eq_getElem_cons hm, List.take_append_drop]
  have h1 : (xs.take m).filter p = [] := List.filter_eq_nil_iff.2 fun x hx => by
    obtain ⟨j, hj, rfl⟩ := List.mem_iff_getElem.1 hx
    rw [List.length_take] at hj
    rw [List.getElem_take, getElem_D (by omega)]
    intro h
    have := hu j (by omega) h
    omega
  have h2 : (xs.drop (m + 1)).filter p = [] := List.filter_eq_nil_iff.2 fun x hx => by
    obtain ⟨j, hj, rfl⟩ := List.mem_iff_getElem.1 hx
    rw [List.length_drop] at hj
    rw [List.getElem_drop, getElem_D (by omega)]
    intro h
    have := hu (m + 1 + j) (by omega) h
    omega
  conv => lhs; rw [e]
  rw [List.filter_append, h1, List.filter_cons, hp, h2]
  simp
theorem Rpl.ok_parts {r : Rpl} (h : r.ok = true) : (∀ i, i < r.blocks.length → (r.blocks.getD i default).ok r.n = true) ∧ r.apart ∧ r.pty.dnOk = true := by
  have h' := h
  simp only [Rpl.ok, Bool.and_eq_true] at h'
  obtain ⟨_, _, hbk, _, _, _, hdn⟩ := h'
  have hbk' := range_all.1 hbk
  have hb : ∀ i, i < r.blocks.length → (r.blocks.getD i default).ok r.n = true := fun i hi => by
    have := hbk' i hi
    simp only [Rpl.bk, Bool.and_eq_true] at this
    exact this.1
  have ha : r.apart := fun i k hi hk => by
    have := hbk' i hi
    simp only [Rpl.bk, Bool.and_eq_true] at this
    have := range_all.1 this.2.2 k hk
    simpa using this
  have hk : ∀ i, i < r.blocks.length → knwB (r.blocks.take i) (r.blocks.getD i default).proof = true := fun i hi => by
    have := hbk' i hi
    simp only [Rpl.bk, Bool.and_eq_true] at this
    exact this.2.1
  exact ⟨hb, ha, (Rpl.dn_eq hb ha hk).trans hdn⟩
theorem Rpl.dn_fnd {r : Rpl} (h : r.ok = true) : ∀ i, i < r.done.length → 0 ≤ r.pty.fnd (r.done.getD i default) := fun i hi => by
  have h1 := (Rpl.ok_parts h).2.2
  have h2 := range_all.1 h1 i hi
  simp only [Pty.dnR, Bool.and_eq_true, decide_eq_true_eq] at h2
  exact h2.1
theorem Rpl.ch_eq {r : Rpl} (h : r.ok = true) : r.chN r.done.length = r.done.map r.pty.agB := by
  have ⟨hb, ha, _⟩ := Rpl.ok_parts h
  have key : ∀ i, i ≤ r.done.length → r.chN i = (r.done.take i).map r.pty.agB := by
    intro i
    induction i with
    | zero => intro _; simp [Rpl.chN]
    | succ i ih =>
      intro hi
      obtain ⟨m, hm, he, hn⟩ := Rpl.fnd_name hb (Rpl.dn_fnd h i (by omega))
      rw [Rpl.chN, ih (by omega), take_succ_getD (by omega), List.map_append, List.map_cons, List.map_nil]
      congr 1
      rw [Pty.agB, he, Int.toNat_natCast]
      exact filter_one hm (by rw [nmB, decide_eq_true hn]) fun k hk hp => by
        simp only [nmB, decide_eq_true_eq] at hp
        exact Rpl.apart_eq ha hm hk (by rw [hp, hn])
  rw [key _ (Nat.le_refl _), List.take_length]
end Go.VS
set_option linter.unusedSimpArgs false
set_option linter.unusedVariables false
open Go.Proofs Go.RowKit
set_option maxRecDepth 20000
namespace Go.VS
theorem f26_at : gz.P.funcs[26]? = some Tryz.f26 := by
  have h : Tryz.prog.funcs[26]? = some Tryz.f26 := by kernel_rfl
  exact h
theorem f30_at : gz.P.funcs[30]? = some Tryz.f30 := by
  have h : Tryz.prog.funcs[30]? = some Tryz.f30 := by kernel_rfl
  exact h
theorem f32_at : gz.P.funcs[32]? = some Tryz.f32 := by
  have h : Tryz.prog.funcs[32]? = some Tryz.f32 := by kernel_rfl
  exact h
def Bnk.sz (b : Bnk) : Nat := b.money.length + b.counts.length
theorem ok26 (d c : Bnk) : VCalls gz 26 [d.enc false, c.enc false] none (fun y _ => y = .lit (.bool (decide (d = c)))) := by
  refine VCalls.go (nt := 17) (keep := [0, 1, 2, 3, 4, 10, 16]) (muts := []) (mvs := []) [] f26_at rfl (by kernel_rfl) rfl (by kernel_rfl) rfl (fun i h => by cases h) rfl ?_
  intro hok
  simp only [go_sem] at hok
  simp only [Tryz.f26, Func.code, Option.getD_some]
  simp only [go_sem]
  refine call_lend ?_
  simp only [go_sem]
  refine callN.eq (ok27 d.money c.money) (by simp only [go_sem]) ?_
  simp only [go_sem]
  by_cases h1 : d.money = c.money
  · simp only [go_sem, eq_true h1]
    refine call_lend ?_
    simp only [go_sem]
    refine callN.eq (ok27 d.counts c.counts) (by simp only [go_sem]) ?_
    simp only [go_sem]
    by_cases h2 : d.counts = c.counts
    · have : d = c := by cases d; cases c; simp_all
      simp only [go_sem, eq_true h2, eq_true this]
    · have : ¬ d = c := fun e => h2 (by rw [e])
      simp only [go_sem, h2, this]
  · have : ¬ d = c := fun e => h1 (by rw [e])
    simp only [go_sem, h1, this]
def Bnk.mkK (b : Bnk) (k : Int) : Bnk := ⟨iM b.money k, iM b.counts (k + b.money.length)⟩
theorem ok30 (b : Bnk) (k : Int) (h1 : 0 ≤ k) (h2 : k + (b.sz : Nat) ≤ 4611686018427387904) :
    VMut gz 30 [b.enc true, .lit (.int .i64 k)] 0 (fun y x' => y = .lit (.int .i64 (k + b.money.length + b.counts.length)) ∧ x' = (b.mkK k).enc true) := by
  have hz : b.sz = b.money.length + b.counts.length := rfl
  refine VMut.go (nt := 14) (keep := [0, 1, 2, 4]) (i := 0) (mvs := []) [] f30_at rfl (by kernel_rfl) rfl (by kernel_rfl) rfl rfl rfl ?_
  intro hok
  simp only [go_sem] at hok
  simp only [Tryz.f30, Func.code, Option.getD_some]
  simp only [go_sem]
  refine call_give 0 0 [.fld 0] rfl rfl rfl (by simp only [go_sem]; rfl) (by simp only [go_sem, List.getElem?_cons_zero, List.getElem?_cons_succ]) (by simp only [go_sem]) (by simp only [go_sem]) (by simp only [go_sem]) ?_
  simp only [go_sem, List.set]
  refine callW.eq (okI31 b.money k h1 (by omega)) ?_
  simp only [go_sem]
  refine ⟨iM_len _ _, ?_⟩
  refine call_give 0 0 [.fld 1] rfl rfl rfl (by simp only [go_sem]; rfl) (by simp only [go_sem, List.getElem?_cons_zero, List.getElem?_cons_succ]) (by simp only [go_sem]) (by simp only [go_sem]) (by simp only [go_sem]) ?_
  simp only [go_sem, List.set]
  refine callW.eq (okI31 b.counts (k + b.money.length) (by omega) (by omega)) ?_
  simp only [go_sem]
  refine ⟨iM_len _ _, ?_⟩
  try trivial
theorem ok32 (b : Bnk) (k : Int) (h1 : 0 ≤ k) (h2 : k + (b.sz : Nat) ≤ 4611686018427387904) :
    VCalls gz 32 [(b.mkK k).enc false, .lit (.int .i64 k)] none (fun y _ => y = .lit (.int .i64 (k + b.money.length + b.counts.length))) := by
  have hz : b.sz = b.money.length + b.counts.length := rfl
  have e : b.mkK k = ⟨iM b.money k, iM b.counts (k + b.money.length)⟩ := rfl
  rw [e]
  refine VCalls.go (nt := 18) (keep := [0, 1, 2, 4, 10, 16]) (muts := []) (mvs := []) [] f32_at rfl (by kernel_rfl) rfl (by kernel_rfl) rfl (fun i h => by cases h) rfl ?_
  intro hok
  simp only [go_sem] at hok
  simp only [Tryz.f32, Func.code, Option.getD_some]
  simp only [go_sem]
  refine call_lend ?_
  simp only [go_sem]
  refine callN.eq (okI33 b.money k h1 (by omega)) (by simp only [go_sem]) ?_
  simp only [go_sem]
  have n1 : ¬ (k + (b.money.length : Int) < 0) := by omega
  simp only [go_sem, n1]
  refine call_lend ?_
  simp only [go_sem]
  refine callN.eq (okI33 b.counts (k + b.money.length) (by omega) (by omega)) (by simp only [go_sem]) ?_
  simp only [go_sem]
  have n2 : ¬ (k + (b.money.length : Int) + (b.counts.length : Int) < 0) := by omega
  simp only [go_sem, n2]
theorem Bnk.ans_len (b : Bnk) (l : List ByteArray) : (b.ans l).1.money.length ≤ 8 ∧ (b.ans l).1.counts.length ≤ 8 ∧ (b.ans l).2.length ≤ l.length := by
  unfold Bnk.ans
  split
  · rename_i h
    have h1 := Bnk.ok_len (Bnk.run_ok h l l.length).1
    have h2 := Bnk.run_len b l l.length
    omega
  · simp
end Go.VS
set_option linter.unusedSimpArgs false
set_option linter.unusedVariables false
open Go.Proofs Go.RowKit
set_option maxRecDepth 20000
namespace Go.VS
theorem f67_at : gz.P.funcs[67]? = some Tryz.f67 := by
  have h : Tryz.prog.funcs[67]? = some Tryz.f67 := by kernel_rfl
  exact h
theorem f25_at : gz.P.funcs[25]? = some Tryz.f25 := by
  have h : Tryz.prog.funcs[25]? = some Tryz.f25 := by kernel_rfl
  exact h
theorem f23_at : gz.P.funcs[23]? = some Tryz.f23 := by
  have h : Tryz.prog.funcs[23]? = some Tryz.f23 := by kernel_rfl
  exact h
def bnk0 : Bnk := ⟨List.replicate 8 1000, List.replicate 8 0⟩
theorem bnk0_ok : bnk0.ok = true := by decide
def mvsL (l : List Blk) : List ByteArray := (l.map Blk.moves).flatten
theorem mvsL_app {l : List Blk} {b : Blk} : mvsL (l ++ [b]) = mvsL l ++ b.moves := by simp [mvsL]
theorem mvsL_len {l : List Blk} (h : ∀ b ∈ l, b.moves.length ≤ 10) : (mvsL l).length ≤ 10 * l.length := by
  induction l with
  | nil => simp [mvsL]
  | cons b l ih =>
    have h1 := h b (List.mem_cons_self ..)
    have h2 := ih fun x hx => h x (List.mem_cons_of_mem _ hx)
    simp only [mvsL, List.map_cons, List.flatten_cons, List.length_append, List.length_cons] at h2 ⊢
    omega
theorem mvsL_sz {l : List Blk} (h : ∀ b ∈ l, ∀ s ∈ b.moves, s.size ≤ 60) : ∀ s ∈ mvsL l, s.size ≤ 4000000 := fun s hs => by
  simp only [mvsL, List.mem_flatten, List.mem_map] at hs
  obtain ⟨m, ⟨b, hb, rfl⟩, hm⟩ := hs
  have := h b hb s hm
  omega
theorem Rpl.ch_blk {r : Rpl} (h : r.ok = true) : ∀ b ∈ r.ch, b.ok r.n = true := fun b hb => by
  have e : r.ch = r.done.map r.pty.agB := (if_pos h).trans (Rpl.ch_eq h)
  rw [e] at hb
  obtain ⟨d, hd, rfl⟩ := List.mem_map.1 hb
  obtain ⟨i, hi, rfl⟩ := List.mem_iff_getElem.1 hd
  rw [getElem_D hi]
  have h1 := Rpl.dn_fnd h i hi
  obtain ⟨m, hm, he, hn⟩ := Rpl.fnd_name (Rpl.ok_parts h).1 h1
  rw [Pty.agB, he, Int.toNat_natCast]
  exact (Rpl.ok_parts h).1 m hm
theorem movesOk_of {l : List ByteArray} (h : movesOk l = true) : l.length ≤ 10 ∧ ∀ s ∈ l, s.size ≤ 60 := by
  simp only [movesOk, Bool.and_eq_true, decide_eq_true_eq, Bool.not_eq_true', List.any_eq_false] at h
  refine ⟨h.1, fun s hs => ?_⟩
  have := h.2 s hs
  simp only [mvB, decide_eq_true_eq] at this
  omega
theorem Rpl.ch_len {r : Rpl} (h : r.ok = true) : r.ch.length = r.done.length := by
  have e : r.ch = r.done.map r.pty.agB := (if_pos h).trans (Rpl.ch_eq h)
  rw [e, List.length_map]
noncomputable def Rpl.ran (r : Rpl) : Bnk × List Int := if r.ok = true then bnk0.ans (mvsL r.ch) else (⟨[], []⟩, [])
set_option maxHeartbeats 2000000 in
theorem ok67 (r : Rpl) (h : r.ok = true) (hr : r.hold) : VCalls gz 67 [.ptr false (r.pty.enc false)] none (fun y _ => y = .tup [(bnk0.ans (mvsL r.ch)).1.enc true, .lst true 1 ((bnk0.ans (mvsL r.ch)).2.map intA)]) := by
  have hcl := Rpl.ch_len h
  have hdl := hr.2.2.2.2.2
  have hm1 : ∀ b ∈ r.ch, b.moves.length ≤ 10 := fun b hb => (movesOk_of (Blk.ok_of (Rpl.ch_blk h b hb)).2.2.2.2.2).1
  have hm2 : ∀ b ∈ r.ch, ∀ s ∈ b.moves, s.size ≤ 60 := fun b hb => (movesOk_of (Blk.ok_of (Rpl.ch_blk h b hb)).2.2.2.2.2).2
  have e : r.ch = r.done.map r.pty.agB := (if_pos h).trans (Rpl.ch_eq h)
  have hag := ok114 r.pty (Rpl.pty_len r) hr (fun i hi => Rpl.dn_fnd h i hi)
  have e2 : r.pty.r.done.map r.pty.agB = r.ch := e.symm
  rw [e2] at hag
  refine VCalls.go (nt := 25) (keep := [0, 2, 3, 4, 6, 9, 10, 11, 12]) (muts := []) (mvs := [7]) [] f67_at rfl (by kernel_rfl) rfl (by kernel_rfl) rfl (fun i h => by cases h) rfl ?_
  intro hok
  simp only [go_sem] at hok
  simp only [Tryz.f67, Func.code, Option.getD_some]
  simp only [go_sem]
  refine call_lend ?_
  simp only [go_sem]
  refine callN.eq (hag) (by simp only [go_sem]) ?_
  simp only [go_sem]
  intro hlm
  refine vm_loopK (α := Nat) (fun i => [(2, .ptr true (Bnk.enc true ⟨[], []⟩)), (4, .lst true 1 ((mvsL (r.ch.take i)).map strA)), (9, .lst true 8 (r.ch.map (Blk.enc true))), (10, .lit (.int .i64 r.ch.length)), (11, .lit (.int .i64 i))]) (fun i => i ≤ r.ch.length) (fun i => r.ch.length - i) 0 ?_ (by omega) (by kernel_rfl) (fun _ => rfl) ?_
  · have e0 : [] = List.map strA (mvsL []) ∧ (0 : Int) = ((0 : Nat) : Int) := ⟨rfl, rfl⟩
    simp only [go_sem, List.take_zero]
    exact e0
  · intro i hi hk
    have hml := mvsL_len (l := r.ch.take i) fun b hb => hm1 b (List.mem_of_mem_take hb)
    rw [List.length_take, Nat.min_eq_left hi] at hml
    simp only [go_sem]
    first | refine branch_ndec (fun h6 => ?_) (fun h6 => ?_) | refine branch_dec (fun h6 => ?_) (fun h6 => ?_) | refine branch_nbool (fun h6 => ?_) (fun h6 => ?_) | refine branch_split (fun h6 => ?_) (fun h6 => ?_)
    · have hlt : i < r.ch.length := by omega
      have h0 : (0 : Int) ≤ (i : Int) := by omega
      have hw3 : IntKind.i64.wrap ((i : Int) + 1) = ((i + 1 : Nat) : Int) := by rw [wrap64 (by omega) (by omega)]; omega
      have hb1 := hm1 _ (getD_mem hlt)
      have hge : (r.ch.map (Blk.enc true))[i]? = some ((r.ch.getD i default).enc true) := by rw [List.getElem?_map, List.getElem?_eq_getElem hlt, getElem_D hlt]; rfl
      have e5 : List.map strA (mvsL (r.ch.take i)) ++ List.map strA (r.ch.getD i default).moves = List.map strA (mvsL (r.ch.take (i + 1))) := by rw [take_succ_getD hlt, mvsL_app, List.map_append]
      simp only [go_sem, h0, hlt, h6, hge, List.drop_zero]
      refine ⟨by omega, ?_⟩
      refine again_intro (i + 1) (by omega) (by omega) ?_
      simp only [go_sem, hw3, e5]
      try rfl
    · have hie : i = r.ch.length := by omega
      subst hie
      rw [List.take_length] at hml ⊢
      simp only [go_sem]
      refine call_lend ?_
      simp only [go_sem]
      refine callN.eq (ok20) (by simp only [go_sem]) ?_
      simp only [go_sem]
      refine call_lend ?_
      simp only [go_sem]
      refine callN.eq (ok9 bnk0 (mvsL r.ch) (by decide) (by decide) (by omega) (mvsL_sz hm2)) (by simp only [go_sem]) ?_
      simp only [go_sem]
      try trivial
theorem Rpl.ran_bad {r : Rpl} (h : r.ok = false) : r.ran = (⟨[], []⟩, []) := if_neg (by rw [h]; decide)
theorem Rpl.ran_good {r : Rpl} (h : r.ok = true) : r.ran = bnk0.ans (mvsL r.ch) := if_pos h
theorem ok25 (r : Rpl) (hr : r.hold) : VCalls gz 25 [r.enc false] none (fun y _ => y = .tup [r.ran.1.enc true, .lst true 1 (r.ran.2.map intA)]) := by
  refine VCalls.go (nt := 13) (keep := [0, 1, 2, 3, 6]) (muts := []) (mvs := [3]) [] f25_at rfl (by kernel_rfl) rfl (by kernel_rfl) rfl (fun i h => by cases h) rfl ?_
  intro hok
  simp only [go_sem] at hok
  simp only [Tryz.f25, Func.code, Option.getD_some]
  simp only [go_sem]
  refine call_lend ?_
  simp only [go_sem]
  refine callN.eq (ok65 r hr) (by simp only [go_sem]) ?_
  simp only [go_sem]
  rw [Rpl.law]
  cases h : r.ok
  · rw [Rpl.ran_bad h]
    simp only [go_sem]
    try trivial
  · rw [Rpl.ran_good h]
    simp only [go_sem]
    refine call_lend ?_
    simp only [go_sem]
    refine callN.eq (ok66 r hr) (by simp only [go_sem]) ?_
    simp only [go_sem]
    refine call_lend ?_
    simp only [go_sem]
    refine callN.eq (ok67 r h hr) (by simp only [go_sem]) ?_
    simp only [go_sem]
    try trivial
set_option maxHeartbeats 4000000 in
theorem ok23 (r : Rpl) (hr : r.hold) : VCalls gz 23 [r.enc false] none (fun y _ => y = .tup [r.ran.1.enc true, .lst true 1 (r.ran.2.map intA)]) := by
  refine VCalls.go (nt := 41) (keep := [0, 1, 2, 3, 4, 5, 6, 7, 8, 9, 13, 22]) (muts := []) (mvs := [3,10,12]) [(9, .tree false (.take 1 (.take 2 (.take 3 (.take 4 (.all (.cons 0 (.all (.cons 5 (.all (.cons 6 (.take 7 (.take 8 (.take 9 (.all (.cons 10 (.all (.cons 11 (.all (.cons 12 .done .nil)) .nil)) .nil))))) (.cons 10 (.all (.cons 6 (.take 7 (.take 8 (.take 9 (.all (.cons 11 (.all (.cons 12 .done .nil)) .nil))))) .nil)) .nil))) (.cons 10 (.all (.cons 5 (.all (.cons 6 (.take 7 (.take 8 (.take 9 (.all (.cons 11 (.all (.cons 12 .done .nil)) .nil))))) .nil)) .nil)) .nil))) (.cons 5 (.all (.cons 0 (.all (.cons 6 (.take 7 (.take 8 (.take 9 (.all (.cons 10 (.all (.cons 11 (.all (.cons 12 .done .nil)) .nil)) .nil))))) (.cons 10 (.all (.cons 6 (.take 7 (.take 8 (.take 9 (.all (.cons 11 (.all (.cons 12 .done .nil)) .nil))))) .nil)) .nil))) (.cons 10 (.all (.cons 0 (.all (.cons 6 (.take 7 (.take 8 (.take 9 (.all (.cons 11 (.all (.cons 12 .done .nil)) .nil))))) .nil)) .nil)) .nil))) (.cons 10 (.all (.cons 0 (.all (.cons 5 (.all (.cons 6 (.take 7 (.take 8 (.take 9 (.all (.cons 11 (.all (.cons 12 .done .nil)) .nil))))) .nil)) .nil)) (.cons 5 (.all (.cons 0 (.all (.cons 6 (.take 7 (.take 8 (.take 9 (.all (.cons 11 (.all (.cons 12 .done .nil)) .nil))))) .nil)) .nil)) .nil))) .nil)))))))))] f23_at rfl (by kernel_rfl) rfl (by kernel_rfl) rfl (fun i h => by cases h) rfl ?_
  intro hok
  simp only [go_sem] at hok
  simp only [Tryz.f23, Func.code, Option.getD_some]
  simp only [go_sem]
  refine call_lend ?_
  simp only [go_sem]
  refine callN.eq (ok58 r) (by simp only [go_sem]) ?_
  simp only [go_sem]
  cases h : r.ok
  · rw [Rpl.ran_bad h]
    simp only [go_sem]
    try trivial
  rw [Rpl.ran_good h]
  have hcl := Rpl.ch_len h
  have hdl := hr.2.2.2.2.2
  have hm1 : ∀ b ∈ r.ch, b.moves.length ≤ 10 := fun b hb => (movesOk_of (Blk.ok_of (Rpl.ch_blk h b hb)).2.2.2.2.2).1
  have hm2 : ∀ b ∈ r.ch, ∀ s ∈ b.moves, s.size ≤ 60 := fun b hb => (movesOk_of (Blk.ok_of (Rpl.ch_blk h b hb)).2.2.2.2.2).2
  have hch := ok59 r hr
  have e : r.ch = r.chN r.done.length := if_pos h
  rw [← e] at hch
  simp only [go_sem]
  refine call_lend ?_
  simp only [go_sem]
  refine callN.eq (ok21) (by simp only [go_sem]) ?_
  simp only [go_sem]
  refine call_lend ?_
  simp only [go_sem]
  refine callN.eq (hch) (by simp only [go_sem]) ?_
  simp only [go_sem]
  refine vm_loopK (α := Nat) (fun i => [(2, .ptr true (Bnk.enc true ⟨[], []⟩)), (4, .lst true 1 ((bnk0.ans (mvsL (r.ch.take i))).2.map intA)), (5, .ptr true ((bnk0.ans (mvsL (r.ch.take i))).1.enc true)), (6, .lst true 8 (r.ch.map (Blk.enc true))), (7, .lit (.int .i64 i))]) (fun i => i ≤ r.ch.length) (fun i => r.ch.length - i) 0 ?_ (by omega) (by kernel_rfl) (fun _ => rfl) ?_
  · have e0 : bnk0.ans (mvsL (r.ch.take 0)) = (bnk0, []) := by
      have : bnk0.ans [] = bnk0.run [] 0 := if_pos bnk0_ok
      rw [List.take_zero]
      exact this
    simp only [go_sem, e0]
    try trivial
  · intro i hi hk
    have hml := mvsL_len (l := r.ch.take i) fun b hb => hm1 b (List.mem_of_mem_take hb)
    rw [List.length_take, Nat.min_eq_left hi] at hml
    have hal := (Bnk.ans_len bnk0 (mvsL (r.ch.take i)))
    simp only [go_sem]
    intro hm
    first | refine branch_ndec (fun h6 => ?_) (fun h6 => ?_) | refine branch_dec (fun h6 => ?_) (fun h6 => ?_) | refine branch_nbool (fun h6 => ?_) (fun h6 => ?_) | refine branch_split (fun h6 => ?_) (fun h6 => ?_)
    rotate_left
    · have hie : i = r.ch.length := by omega
      subst hie
      rw [List.take_length]
      simp only [go_sem]
      try trivial
    have hlt : i < r.ch.length := by omega
    have h0 : (0 : Int) ≤ (i : Int) := by omega
    have hw3 : IntKind.i64.wrap ((i : Int) + 1) = ((i + 1 : Nat) : Int) := by rw [wrap64 (by omega) (by omega)]; omega
    have hb1 := hm1 _ (getD_mem hlt)
    have hb2 : ∀ s ∈ (r.ch.getD i default).moves, s.size ≤ 4000000 := fun s hs => by have := hm2 _ (getD_mem hlt) s hs; omega
    have he1 : bnk0.ans (mvsL (r.ch.take (i + 1))) = (((bnk0.ans (mvsL (r.ch.take i))).1.ans (r.ch.getD i default).moves).1, (bnk0.ans (mvsL (r.ch.take i))).2 ++ ((bnk0.ans (mvsL (r.ch.take i))).1.ans (r.ch.getD i default).moves).2) := by
      rw [take_succ_getD hlt, mvsL_app, Bnk.ans_app bnk0_ok]
    have hal2 := Bnk.ans_len (bnk0.ans (mvsL (r.ch.take i))).1 (r.ch.getD i default).moves
    have hge : (r.ch.map (Blk.enc true))[i]? = some ((r.ch.getD i default).enc true) := by rw [List.getElem?_map, List.getElem?_eq_getElem hlt, getElem_D hlt]; rfl
    simp only [go_sem, h0, hlt, h6, hge]
    repeat' refine And.intro ?_ ?_
    all_goals
      refine call_lend ?_
      simp only [go_sem, hge]
      refine callN.eq (ok16 (bnk0.ans (mvsL (r.ch.take i))).1 (r.ch.getD i default).moves (by omega) (by omega) (by omega) hb2) (by simp only [go_sem, hge]) ?_
      simp only [go_sem, hge]
      repeat' refine And.intro ?_ ?_
      all_goals
        first
        | omega
        | (refine again_intro (i + 1) (by omega) (by omega) ?_
           rw [he1, hw3]
           simp only [List.map_append]
           first | rfl | trivial)
end Go.VS
set_option linter.unusedSimpArgs false
set_option linter.unusedVariables false
open Go.Proofs
set_option maxRecDepth 20000
namespace Go.VS
theorem Rpl.mkR_like (r : Rpl) (k : Int) : (r.mkR k).id = r.id ∧ (r.mkR k).n = r.n ∧ (r.mkR k).view = r.view ∧ (r.mkR k).voted = r.voted ∧ (r.mkR k).locked = r.locked ∧ (r.mkR k).proposed = r.proposed ∧
    ((r.mkR k).high.view = r.high.view ∧ (r.mkR k).high.name = r.high.name ∧ (r.mkR k).high.bys.length = r.high.bys.length ∧ (r.mkR k).high.tags.length = r.high.tags.length) ∧
    (r.mkR k).blocks.length = r.blocks.length ∧ (r.mkR k).votes.length = r.votes.length ∧ (r.mkR k).news.length = r.news.length ∧ (r.mkR k).done.length = r.done.length :=
  ⟨rfl, rfl, rfl, rfl, rfl, rfl, ⟨rfl, rfl, iM_len _ _, iM_len _ _⟩, bM_len _ _, vM_len _ _, nM_len _ _, iM_len _ _⟩
def Rpl.zero : Rpl := ⟨0, 0, 0, 0, 0, 0, ⟨0, 0, [], []⟩, [], [], [], []⟩
theorem bT_le : ∀ (xs : List Blk), bT xs ≤ 5 * xs.length + (xs.map Blk.sz).sum
  | [] => by simp [bT, tot]
  | x :: xs => by
    have h1 := bT_le xs
    have h2 : bT (x :: xs) = x.mw + bT xs := by simp [bT, tot]
    have h3 : x.mw ≤ 5 + x.sz := by
      have : x.sz = x.proof.bys.length + x.proof.tags.length + szL ByteArray.size x.moves := rfl
      simp only [szL] at this
      unfold Blk.mw
      omega
    simp only [List.map_cons, List.sum_cons, List.length_cons]
    omega
theorem Rpl.k5_le {r : Rpl} (h : r.sz ≤ 1048576) (k : Int) : k ≤ r.k5 k ∧ r.k5 k ≤ k + 6291456 := by
  have h2 : r.high.sz + szL Blk.sz r.blocks + r.votes.length + r.news.length + r.done.length ≤ 1048576 := h
  have h3 := bT_le r.blocks
  have h4 : r.high.mw = r.high.sz := rfl
  unfold Rpl.k5 Rpl.k4 Rpl.k3 Rpl.k2 Rpl.k1
  simp only [szL] at h2
  omega
end Go.VS
set_option linter.unusedSimpArgs false
set_option linter.unusedVariables false
open Go.Proofs
set_option maxRecDepth 20000
namespace Go.VS
end Go.VS
set_option linter.unusedSimpArgs false
set_option linter.unusedVariables false
open Go.Proofs Go.RowKit
set_option maxRecDepth 20000
namespace Go.VS
theorem f4_at : gz.P.funcs[4]? = some Tryz.f4 := by
  have h : Tryz.prog.funcs[4]? = some Tryz.f4 := by kernel_rfl
  exact h
theorem Rpl.ran_len (r : Rpl) (hz : r.sz ≤ 1048576) : r.ran.1.money.length ≤ 8 ∧ r.ran.1.counts.length ≤ 8 ∧ r.ran.2.length ≤ 10485760 := by
  unfold Rpl.ran
  split
  · rename_i h
    have h1 := Bnk.ans_len bnk0 (mvsL r.ch)
    have h2 := mvsL_len (l := r.ch) fun b hb => (movesOk_of (Blk.ok_of (Rpl.ch_blk h b hb)).2.2.2.2.2).1
    have h3 := Rpl.ch_len h
    have h4 := (Rpl.hold_of hz).2.2.2.2.2
    exact ⟨h1.1, h1.2.1, by have := h1.2.2; omega⟩
  · exact ⟨by simp, by simp, by simp⟩
set_option maxHeartbeats 2000000 in
theorem ok4 (r : Rpl) : VCalls gz 4 [r.enc false] none (fun y _ => y = .lit (.bool true)) := by
  refine VCalls.go (nt := 112) (keep := [0, 1, 2, 3, 4, 5, 6, 7, 8, 9, 10, 11, 12, 13, 18, 41, 46, 63, 74, 79, 82, 98, 103, 108, 111]) (muts := []) (mvs := []) [(10, .tree true (.take 0 (.take 1 (.all (.cons 2 (.all (.cons 3 (.take 4 .done) .nil)) .nil)))))] f4_at rfl (by kernel_rfl) rfl (by kernel_rfl) rfl (fun i h => by cases h) rfl ?_
  intro hok
  simp only [go_sem] at hok
  simp only [Tryz.f4, Func.code, Option.getD_some]
  simp only [go_sem]
  refine call_lend ?_
  simp only [go_sem]
  refine callN.eq (ok22 r 1048576 ⟨by omega, by omega⟩) (by simp only [go_sem]) ?_
  simp only [go_sem]
  by_cases h1 : (r.sz : Int) ≤ 1048576
  rotate_left
  · have e : szR r.sz 1048576 = -1 := szR_lt (by omega)
    rw [e]
    simp only [go_sem]
    try trivial
  have e : szR r.sz 1048576 = 1048576 - r.sz := szR_le h1
  have n1 : ¬ ((1048576 : Int) - r.sz < 0) := by omega
  rw [e]
  simp only [go_sem, n1]
  have hz : r.sz ≤ 1048576 := by omega
  have hh := Rpl.hold_of hz
  have m1 := Rpl.k5_le hz 1
  have m2 := Rpl.ran_len r hz
  obtain ⟨B, hB⟩ : ∃ B, B = r.ran.1 := ⟨_, rfl⟩
  obtain ⟨C, hC⟩ : ∃ C, C = r.ran.2 := ⟨_, rfl⟩
  have k1 := ok23 r hh
  have k2 := ok25 r hh
  rw [← hB, ← hC] at k1 k2 m2
  have hbs : B.sz ≤ 16 := by unfold Bnk.sz; omega
  refine call_lend ?_
  simp only [go_sem]
  refine callN.eq (ok24 r hz) (by simp only [go_sem]) ?_
  simp only [go_sem]
  refine call_lend ?_
  simp only [go_sem]
  refine callN.eq (k1) (by simp only [go_sem]) ?_
  simp only [go_sem]
  refine call_lend ?_
  simp only [go_sem]
  refine callN.eq (ok24 r hz) (by simp only [go_sem]) ?_
  simp only [go_sem]
  refine call_lend ?_
  simp only [go_sem]
  refine callN.eq (k2) (by simp only [go_sem]) ?_
  simp only [go_sem]
  refine call_lend ?_
  simp only [go_sem]
  refine callN.eq (ok26 B B) (by simp only [go_sem]) ?_
  simp only [go_sem]
  try simp only [go_sem, bne_self_eq_false]
  refine call_lend ?_
  simp only [go_sem]
  refine callN.eq (ok27 C C) (by simp only [go_sem]) ?_
  simp only [go_sem]
  try simp only [go_sem, bne_self_eq_false]
  repeat' refine And.intro ?_ ?_
  all_goals
    refine call_lend ?_
    simp only [go_sem]
    refine callN.eq (ok24 r hz) (by simp only [go_sem]) ?_
    simp only [go_sem]
    refine call_lend ?_
    simp only [go_sem]
    refine callN.eq (ok28 r r) (by simp only [go_sem]) ?_
    simp only [go_sem]
    refine call_give 0 6 [.idx 0] rfl rfl rfl (by simp only [go_sem]; rfl) (by simp only [go_sem, List.getElem?_cons_zero, List.getElem?_cons_succ]) (by simp only [go_sem]) (by simp only [go_sem]) (by simp only [go_sem]) ?_
    simp only [go_sem, List.set]
    refine callW.eq (ok29 r 1 (by omega) (by omega)) ?_
    simp only [go_sem]
    refine ⟨Rpl.mkR_like r 1, ?_⟩
    have n2 : ¬ (r.k5 1 < 0) := by omega
    simp only [go_sem, n2]
    refine call_lend ?_
    simp only [go_sem]
    refine callN.eq (ok26 B B) (by simp only [go_sem]) ?_
    simp only [go_sem]
    try simp only [go_sem, bne_self_eq_false]
    refine call_lend ?_
    simp only [go_sem]
    refine callN.eq (ok27 C C) (by simp only [go_sem]) ?_
    simp only [go_sem]
    try simp only [go_sem, bne_self_eq_false]
    refine call_give 0 7 [.idx 0] rfl rfl rfl (by simp only [go_sem]; rfl) (by simp only [go_sem, List.getElem?_cons_zero, List.getElem?_cons_succ]) (by simp only [go_sem]) (by simp only [go_sem]) (by simp only [go_sem]) ?_
    simp only [go_sem, List.set]
    refine callW.eq (ok30 B 1 (by omega) (by omega)) ?_
    simp only [go_sem]
    refine ⟨⟨iM_len _ _, iM_len _ _⟩, ?_⟩
    refine call_give 0 8 [] rfl rfl rfl (by simp only [go_sem]; rfl) (by simp only [go_sem, List.getElem?_cons_zero, List.getElem?_cons_succ]) (by simp only [go_sem]) (by simp only [go_sem]) (by simp only [go_sem]) ?_
    simp only [go_sem, List.set]
    refine callW.eq (okI31 C (1 + B.money.length + B.counts.length) (by omega) (by omega)) ?_
    simp only [go_sem]
    refine ⟨iM_len _ _, ?_⟩
    refine call_lend ?_
    simp only [go_sem]
    refine callN.eq (ok32 B 1 (by omega) (by omega)) (by simp only [go_sem]) ?_
    simp only [go_sem]
    have n4 : ¬ (1 + (B.money.length : Int) + (B.counts.length : Int) < 0) := by omega
    try simp only [go_sem, n4]
    refine call_lend ?_
    simp only [go_sem]
    refine callN.eq (okI33 C (1 + B.money.length + B.counts.length) (by omega) (by omega)) (by simp only [go_sem]) ?_
    simp only [go_sem]
    have n5 : ¬ (1 + (B.money.length : Int) + (B.counts.length : Int) + (C.length : Int) < 0) := by omega
    try simp only [go_sem, n5, bne_self_eq_false]
    refine call_lend ?_
    simp only [go_sem]
    refine callN.eq (ok24 r hz) (by simp only [go_sem]) ?_
    simp only [go_sem]
    refine call_lend ?_
    simp only [go_sem]
    refine callN.eq (k2) (by simp only [go_sem]) ?_
    simp only [go_sem]
    refine call_lend ?_
    simp only [go_sem]
    refine callN.eq (ok26 B B) (by simp only [go_sem]) ?_
    simp only [go_sem]
    try simp only [go_sem, bne_self_eq_false]
    refine call_lend ?_
    simp only [go_sem]
    refine callN.eq (ok27 C C) (by simp only [go_sem]) ?_
    simp only [go_sem]
    try simp only [go_sem, bne_self_eq_false]
    refine call_lend ?_
    simp only [go_sem]
    refine callN.eq (ok32 B 1 (by omega) (by omega)) (by simp only [go_sem]) ?_
    simp only [go_sem]
    try simp only [go_sem, n4]
    refine call_lend ?_
    simp only [go_sem]
    refine callN.eq (okI33 C (1 + B.money.length + B.counts.length) (by omega) (by omega)) (by simp only [go_sem]) ?_
    simp only [go_sem]
    try simp only [go_sem, n5, bne_self_eq_false]
    try trivial
end Go.VS
