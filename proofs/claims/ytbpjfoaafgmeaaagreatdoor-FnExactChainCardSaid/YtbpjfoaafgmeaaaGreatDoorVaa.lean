/- VS: functions by the machine. -/
import Derived.Test.YtbpjfoaafgmeaaaGreatDoorVz
import Derived.Test.YtbpjfoaafgmeaaaGreatDoorVr
import Derived.Test.YtbpjfoaafgmeaaaGreatDoorVy
set_option linter.unusedSimpArgs false
set_option linter.unusedVariables false
open Go.Proofs
set_option maxRecDepth 20000
namespace Go.VS
theorem f77_at : gz.P.funcs[77]? = some Tryz.f77 := by
  have h : Tryz.prog.funcs[77]? = some Tryz.f77 := by kernel_rfl
  exact h
theorem f19_at : gz.P.funcs[19]? = some Tryz.f19 := by
  have h : Tryz.prog.funcs[19]? = some Tryz.f19 := by kernel_rfl
  exact h
theorem f78_at : gz.P.funcs[78]? = some Tryz.f78 := by
  have h : Tryz.prog.funcs[78]? = some Tryz.f78 := by kernel_rfl
  exact h
theorem f20_at : gz.P.funcs[20]? = some Tryz.f20 := by
  have h : Tryz.prog.funcs[20]? = some Tryz.f20 := by kernel_rfl
  exact h
def nmB (d : Int) (b : Blk) : Bool := decide (b.nm = d)
/-- the blocks that the first i of what is done name -/
def Rpl.chN (r : Rpl) : Nat → List Blk
  | 0 => []
  | i + 1 => r.chN i ++ r.blocks.filter (nmB (r.done.getD i default))
theorem Rpl.chN_len (r : Rpl) : ∀ i, (r.chN i).length ≤ i * r.blocks.length
  | 0 => by simp [Rpl.chN]
  | i + 1 => by
    have h1 := Rpl.chN_len r i
    have h2 := List.length_filter_le (nmB (r.done.getD i default)) r.blocks
    rw [Rpl.chN, List.length_append, Nat.add_mul, Nat.one_mul]
    omega
theorem filter_take {α : Type} [Inhabited α] {p : α → Bool} {xs : List α} {k : Nat} (h : k < xs.length) : (xs.take (k + 1)).filter p = (xs.take k).filter p ++ (if p (xs.getD k default) = true then [xs.getD k default] else []) := by
  rw [take_succ_getD h, List.filter_append]
  congr 1
  cases hp : p (xs.getD k default) <;> simp only [List.filter_cons, hp, List.filter_nil, if_true, if_false, Bool.false_eq_true]
set_option maxHeartbeats 2000000 in
theorem ok77 (r : Rpl) (hr : r.hold) : VCalls gz 77 [r.enc false] none (fun y _ => y = .lst true 8 ((r.chN r.done.length).map (Blk.enc true))) := by
  obtain ⟨g1, g2, g3, g4, g5, g6⟩ := hr
  refine VCalls.go (nt := 43) (keep := [0, 1, 2, 3, 4, 5, 11, 18, 32]) (muts := []) (mvs := []) [(8, .tree true (.take 0 (.take 1 (.take 2 (.take 3 (.take 4 (.take 6 (.take 7 (.take 8 (.take 9 (.take 10 (.all (.cons 5 (.take 11 .done) .nil)))))))))))))] f77_at rfl (by kernel_rfl) rfl (by kernel_rfl) rfl (fun i h => by cases h) rfl ?_
  intro hok
  simp only [go_sem] at hok
  simp only [Tryz.f77, Func.code, Option.getD_some]
  simp only [go_sem]
  refine vm_loopK (α := Nat) (fun i => [(1, .ptr true (r.enc false)), (3, .lst true 8 ((r.chN i).map (Blk.enc true))), (4, .lit (.int .i64 i))]) (fun i => i ≤ r.done.length) (fun i => r.done.length - i) 0 ?_ (by omega) (by kernel_rfl) (fun _ => rfl) ?_
  · simp only [go_sem]
    exact ⟨rfl, rfl⟩
  · intro i hi hk
    simp only [go_sem]
    intro _
    first | refine branch_ndec (fun h6 => ?_) (fun h6 => ?_) | refine branch_dec (fun h6 => ?_) (fun h6 => ?_) | refine branch_nbool (fun h6 => ?_) (fun h6 => ?_) | refine branch_split (fun h6 => ?_) (fun h6 => ?_)
    rotate_left
    · have hie : i = r.done.length := by omega
      subst hie
      simp only [go_sem]
      try trivial
    have hlt : i < r.done.length := by omega
    have h0 : (0 : Int) ≤ (i : Int) := by omega
    have hw3 : IntKind.i64.wrap ((i : Int) + 1) = ((i + 1 : Nat) : Int) := by rw [wrap64 (by omega) (by omega)]; omega
    have hcl := r.chN_len i
    have hcl2 : i * r.blocks.length ≤ 1048576 * 1048576 := Nat.mul_le_mul (by omega) g2
    simp only [go_sem]
    refine vm_loopK (α := Nat) (fun k => [(1, .ptr true (r.enc false)), (3, .lst true 8 ((r.chN i ++ (r.blocks.take k).filter (nmB (r.done.getD i default))).map (Blk.enc true))), (4, .lit (.int .i64 i)), (5, .lit (.int .i64 k))]) (fun k => k ≤ r.blocks.length) (fun k => r.blocks.length - k) 0 ?_ (by omega) (by kernel_rfl) (fun _ => rfl) ?_
    · simp only [go_sem, List.take_zero, List.filter_nil, List.append_nil]
      try trivial
    · intro k hk2 hkk
      simp only [go_sem]
      intro _
      first | refine branch_ndec (fun h8 => ?_) (fun h8 => ?_) | refine branch_dec (fun h8 => ?_) (fun h8 => ?_) | refine branch_nbool (fun h8 => ?_) (fun h8 => ?_) | refine branch_split (fun h8 => ?_) (fun h8 => ?_)
      rotate_left
      · have hke : k = r.blocks.length := by omega
        subst hke
        simp only [go_sem, hw3]
        refine again_intro (i + 1) (by omega) (by omega) ?_
        simp only [go_sem, Rpl.chN, List.take_length]
        try trivial
      have hlt2 : k < r.blocks.length := by omega
      have h02 : (0 : Int) ≤ (k : Int) := by omega
      have hw4 : IntKind.i64.wrap ((k : Int) + 1) = ((k + 1 : Nat) : Int) := by rw [wrap64 (by omega) (by omega)]; omega
      have hft := filter_take (p := nmB (r.done.getD i default)) hlt2
      have hfl := List.length_filter_le (nmB (r.done.getD i default)) (r.blocks.take k)
      have hfl2 : (r.blocks.take k).length ≤ k := by rw [List.length_take]; omega
      simp only [go_sem, h02, hlt2, h8, h0, hlt, h6]
      repeat' refine And.intro ?_ ?_
      all_goals
        refine call_lend ?_
        simp only [go_sem]
        refine callN.eq (ok43 (r.blocks.getD k default)) (by simp only [go_sem]) ?_
        simp only [go_sem]
        by_cases h9 : (r.blocks.getD k default).nm = r.done.getD i default
        · rw [if_pos (by rw [nmB, decide_eq_true h9])] at hft
          simp only [go_sem, eq_true h9, h02, hlt2, h8, h0, hlt, h6]
          refine call_lend ?_
          simp only [go_sem]
          refine callN.eq (ok122 (r.blocks.getD k default) (g3 k hlt2)) (by simp only [go_sem]) ?_
          simp only [go_sem]
          refine ⟨by omega, ?_⟩
          simp only [go_sem, hw4]
          refine again_intro (k + 1) (by omega) (by omega) ?_
          simp only [go_sem, hft]
          rw [List.take_of_length_le (by simp only [List.length_append, List.length_map, List.length_cons, List.length_nil]; omega), List.append_assoc]
          try rfl
        · rw [if_neg (by rw [nmB, decide_eq_false h9]; decide), List.append_nil] at hft
          simp only [go_sem, h9, hw4]
          refine again_intro (k + 1) (by omega) (by omega) ?_
          simp only [go_sem, hft]
          try trivial
def Rpl.ch (r : Rpl) : List Blk := if r.ok = true then r.chN r.done.length else []
theorem ok19 (r : Rpl) (hr : r.hold) : VCalls gz 19 [r.enc false] none (fun y _ => y = .lst true 8 (r.ch.map (Blk.enc true))) := by
  refine VCalls.go (nt := 9) (keep := [0, 1, 2, 5]) (muts := []) (mvs := []) [] f19_at rfl (by kernel_rfl) rfl (by kernel_rfl) rfl (fun i h => by cases h) rfl ?_
  intro hok
  simp only [go_sem] at hok
  simp only [Tryz.f19, Func.code, Option.getD_some]
  simp only [go_sem]
  refine call_lend ?_
  simp only [go_sem]
  refine callN.eq (ok10 r) (by simp only [go_sem]) ?_
  simp only [go_sem]
  cases h : r.ok
  · have e : r.ch = [] := if_neg (by rw [h]; decide)
    rw [e]
    simp only [go_sem]
    try trivial
  · have e : r.ch = r.chN r.done.length := if_pos h
    rw [e]
    simp only [go_sem]
    refine call_lend ?_
    simp only [go_sem]
    refine callN.eq (ok77 r hr) (by simp only [go_sem]) ?_
    simp only [go_sem]
    try trivial
def Pty.agB (p : Pty) (d : Int) : Blk := p.r.blocks.getD (p.fnd d).toNat default
set_option maxHeartbeats 2000000 in
theorem ok78 (p : Pty) (hl : p.names.length = p.r.blocks.length) (hr : p.r.hold) (hf : ∀ i, i < p.r.done.length → 0 ≤ p.fnd (p.r.done.getD i default)) : VCalls gz 78 [.ptr false (p.enc false)] none (fun y _ => y = .lst true 8 ((p.r.done.map p.agB).map (Blk.enc true))) := by
  obtain ⟨g1, g2, g3, g4, g5, g6⟩ := hr
  refine VCalls.go (nt := 33) (keep := [0, 2, 3, 5, 11, 12, 13, 14]) (muts := []) (mvs := []) [(5, .tree false (.take 0 (.take 1 (.take 2 (.take 3 (.take 4 (.take 6 (.take 7 (.all (.cons 5 (.all (.cons 8 (.take 9 (.all (.cons 10 (.all (.cons 11 (.all (.cons 12 (.all (.cons 13 (.all (.cons 14 .done .nil)) .nil)) .nil)) .nil)) .nil))) .nil)) (.cons 8 (.all (.cons 5 (.take 9 (.all (.cons 10 (.all (.cons 11 (.all (.cons 12 (.all (.cons 13 (.all (.cons 14 .done .nil)) .nil)) .nil)) .nil)) .nil))) .nil)) .nil)))))))))))] f78_at rfl (by kernel_rfl) rfl (by kernel_rfl) rfl (fun i h => by cases h) rfl ?_
  intro hok
  simp only [go_sem] at hok
  simp only [Tryz.f78, Func.code, Option.getD_some]
  simp only [go_sem]
  intro hm
  refine vm_loopK (α := Nat) (fun i => [(0, .ptr false (p.enc false)), (3, .lst true 8 (((p.r.done.take i).map p.agB).map (Blk.enc true))), (11, .lst false 1 (p.r.done.map intA)), (12, .lit (.int .i64 p.r.done.length)), (13, .lit (.int .i64 i))]) (fun i => i ≤ p.r.done.length) (fun i => p.r.done.length - i) 0 ?_ (by omega) (by kernel_rfl) (fun _ => rfl) ?_
  · simp only [go_sem]
    try rfl
  · intro i hi hk
    simp only [go_sem]
    first | refine branch_ndec (fun h6 => ?_) (fun h6 => ?_) | refine branch_dec (fun h6 => ?_) (fun h6 => ?_) | refine branch_nbool (fun h6 => ?_) (fun h6 => ?_) | refine branch_split (fun h6 => ?_) (fun h6 => ?_)
    rotate_left
    · have hie : i = p.r.done.length := by omega
      subst hie
      simp only [go_sem]
      rw [List.take_of_length_le (by simp)]
    have hlt : i < p.r.done.length := by omega
    have h0 : (0 : Int) ≤ (i : Int) := by omega
    have hw3 : IntKind.i64.wrap ((i : Int) + 1) = ((i + 1 : Nat) : Int) := by rw [wrap64 (by omega) (by omega)]; omega
    obtain ⟨f, hfe⟩ := Int.eq_ofNat_of_zero_le (hf i hlt)
    have hrg := (idxOf_rng (isI (p.r.done.getD i default)) p.names).2
    have hd : p.fnd (p.r.done.getD i default) = idxOf (isI (p.r.done.getD i default)) p.names := rfl
    have h2 : (0 : Int) ≤ (f : Int) := by omega
    have h3 : (f : Int) < (p.r.blocks.length : Int) := by omega
    have h4 : f < p.r.blocks.length := by omega
    have hag : p.agB (p.r.done.getD i default) = p.r.blocks.getD f default := by rw [Pty.agB, hfe, Int.toNat_natCast]
    have hlk : (p.r.done.take i).length = i := by rw [List.length_take]; omega
    simp only [go_sem, h0, hlt, h6]
    repeat' refine And.intro ?_ ?_
    all_goals
      refine call_lend ?_
      simp only [go_sem]
      refine callN.eq (ok109 p (p.r.done.getD i default)) (by simp only [go_sem]) ?_
      simp only [go_sem]
      simp only [go_sem, ← hd, hfe, h2, h3, h4]
      refine call_lend ?_
      simp only [go_sem]
      refine callN.eq (ok123 (p.r.blocks.getD f default) (g3 f h4)) (by simp only [go_sem]) ?_
      simp only [go_sem]
      refine ⟨by omega, ?_⟩
      rw [hw3]
      refine again_intro (i + 1) (by omega) (by omega) ?_
      simp only [go_sem]
      rw [take_succ_getD hlt, List.map_append, List.map_append, List.take_of_length_le (by simp), List.map_cons, hag]
      try rfl

/-! ### The chain of a right replica -/
theorem filter_one {α : Type} [Inhabited α] {p : α → Bool} {xs : List α} {m : Nat} (hm : m < xs.length) (hp : p (xs.getD m default) = true) (hu : ∀ k, k < xs.length → p (xs.getD k default) = true → k = m) : xs.filter p = [xs.getD m default] := by
  have e : xs = xs.take m ++ xs.getD m default :: xs.drop (m + 1) := by
    rw [← getElem_D hm, ← List.drop_eq_getElem_cons hm, List.take_append_drop]
  have h1 : (xs.take m).filter p = [] := List.filter_eq_nil_iff.2 fun x hx => by
    obtain ⟨j, hj, rfl⟩ := List.mem_iff_getElem.1 hx
    rw [List.length_take] at hj
    rw [List.getElem_take, getElem_D (by omega)]
    intro h
    have := hu j (by omega) h
    omega
  have h2 : (xs.drop (m + 1)).filter p = [] := List.filter_eq_nil_iff.2 fun x hx => by
    obtain ⟨j, hj, rfl⟩ := List.mem_iff_getElem.1 hx
    rw [List.length_drop] at hj
    rw [List.getElem_drop, getElem_D (by omega)]
    intro h
    have := hu (m + 1 + j) (by omega) h
    omega
  conv => lhs; rw [e]
  rw [List.filter_append, h1, List.filter_cons, hp, h2]
  simp
theorem Rpl.ok_parts {r : Rpl} (h : r.ok = true) : (∀ i, i < r.blocks.length → (r.blocks.getD i default).ok r.n = true) ∧ r.apart ∧ r.pty.dnOk = true := by
  have h' := h
  simp only [Rpl.ok, Bool.and_eq_true] at h'
  obtain ⟨_, _, hbk, _, _, _, hdn⟩ := h'
  have hbk' := range_all.1 hbk
  have hb : ∀ i, i < r.blocks.length → (r.blocks.getD i default).ok r.n = true := fun i hi => by
    have := hbk' i hi
    simp only [Rpl.bk, Bool.and_eq_true] at this
    exact this.1
  have ha : r.apart := fun i k hi hk => by
    have := hbk' i hi
    simp only [Rpl.bk, Bool.and_eq_true] at this
    have := range_all.1 this.2.2 k hk
    simpa using this
  have hk : ∀ i, i < r.blocks.length → knwB (r.blocks.take i) (r.blocks.getD i default).proof = true := fun i hi => by
    have := hbk' i hi
    simp only [Rpl.bk, Bool.and_eq_true] at this
    exact this.2.1
  exact ⟨hb, ha, (Rpl.dn_eq hb ha hk).trans hdn⟩
theorem Rpl.dn_fnd {r : Rpl} (h : r.ok = true) : ∀ i, i < r.done.length → 0 ≤ r.pty.fnd (r.done.getD i default) := fun i hi => by
  have h1 := (Rpl.ok_parts h).2.2
  have h2 := range_all.1 h1 i hi
  simp only [Pty.dnR, Bool.and_eq_true, decide_eq_true_eq] at h2
  exact h2.1
theorem Rpl.ch_eq {r : Rpl} (h : r.ok = true) : r.chN r.done.length = r.done.map r.pty.agB := by
  have ⟨hb, ha, _⟩ := Rpl.ok_parts h
  have key : ∀ i, i ≤ r.done.length → r.chN i = (r.done.take i).map r.pty.agB := by
    intro i
    induction i with
    | zero => intro _; simp [Rpl.chN]
    | succ i ih =>
      intro hi
      obtain ⟨m, hm, he, hn⟩ := Rpl.fnd_name hb (Rpl.dn_fnd h i (by omega))
      rw [Rpl.chN, ih (by omega), take_succ_getD (by omega), List.map_append, List.map_cons, List.map_nil]
      congr 1
      rw [Pty.agB, he, Int.toNat_natCast]
      exact filter_one hm (by rw [nmB, decide_eq_true hn]) fun k hk hp => by
        simp only [nmB, decide_eq_true_eq] at hp
        exact Rpl.apart_eq ha hm hk (by rw [hp, hn])
  rw [key _ (Nat.le_refl _), List.take_length]
theorem ok20 (r : Rpl) (hr : r.hold) : VCalls gz 20 [r.enc false] none (fun y _ => y = .lst true 8 (r.ch.map (Blk.enc true))) := by
  refine VCalls.go (nt := 9) (keep := [0, 1, 2, 5]) (muts := []) (mvs := []) [] f20_at rfl (by kernel_rfl) rfl (by kernel_rfl) rfl (fun i h => by cases h) rfl ?_
  intro hok
  simp only [go_sem] at hok
  simp only [Tryz.f20, Func.code, Option.getD_some]
  simp only [go_sem]
  refine call_lend ?_
  simp only [go_sem]
  refine callN.eq (ok12 r hr) (by simp only [go_sem]) ?_
  simp only [go_sem]
  rw [Rpl.law]
  cases h : r.ok
  · have e : r.ch = [] := if_neg (by rw [h]; decide)
    rw [e]
    simp only [go_sem]
    try trivial
  · have e : r.ch = r.done.map r.pty.agB := (if_pos h).trans (Rpl.ch_eq h)
    rw [e]
    simp only [go_sem]
    refine call_lend ?_
    simp only [go_sem]
    refine callN.eq (ok55 r hr) (by simp only [go_sem]) ?_
    simp only [go_sem]
    refine call_lend ?_
    simp only [go_sem]
    refine callN.eq (ok78 r.pty (Rpl.pty_len r) hr (Rpl.dn_fnd h)) (by simp only [go_sem]) ?_
    simp only [go_sem]
    rw [List.take_of_length_le (by simp)]
    rfl
end Go.VS

set_option linter.unusedSimpArgs false
set_option linter.unusedVariables false
open Go.Proofs
set_option maxRecDepth 20000
namespace Go.VS
theorem f5_at : gz.P.funcs[5]? = some Tryz.f5 := by
  have h : Tryz.prog.funcs[5]? = some Tryz.f5 := by kernel_rfl
  exact h
theorem bT_map {f : Int → Blk} (h : ∀ d, (f d).mw ≤ 1048581) : ∀ (xs : List Int), bT (xs.map f) ≤ xs.length * 1048581
  | [] => by simp [bT, tot]
  | x :: xs => by
    have h1 := bT_map h xs
    have h2 : bT ((x :: xs).map f) = (f x).mw + bT (xs.map f) := by simp [bT, tot]
    have h3 := h x
    rw [h2, List.length_cons]
    omega
theorem Rpl.ch_mw {r : Rpl} (h : r.sz ≤ 1048576) : (bT r.ch : Int) ≤ 1099516870656 := by
  have h2 : r.high.sz + szL Blk.sz r.blocks + r.votes.length + r.news.length + r.done.length ≤ 1048576 := h
  by_cases hok : r.ok = true
  · have e : r.ch = r.done.map r.pty.agB := (if_pos hok).trans (Rpl.ch_eq hok)
    have h3 := bT_map (f := r.pty.agB) (fun d => by
      have h5 : ∀ b : Blk, b.sz ≤ 1048576 → b.mw ≤ 1048581 := fun b hb => by
        have : b.sz = b.proof.bys.length + b.proof.tags.length + szL ByteArray.size b.moves := rfl
        simp only [szL] at this
        unfold Blk.mw
        omega
      refine h5 _ ?_
      by_cases hl : (r.pty.fnd d).toNat < r.blocks.length
      · have := getD_sz (f := Blk.sz) hl
        show Blk.sz (r.blocks.getD (r.pty.fnd d).toNat default) ≤ 1048576
        omega
      · have : r.pty.agB d = default := by
          show r.blocks.getD (r.pty.fnd d).toNat default = default
          simp [List.getD, List.getElem?_eq_none (Nat.le_of_not_lt hl)]
        rw [this]
        decide) r.done
    rw [e]
    omega
  · have e : r.ch = [] := if_neg hok
    rw [e]
    decide
set_option maxHeartbeats 2000000 in
theorem ok5 (r : Rpl) : VCalls gz 5 [r.enc false] none (fun y _ => y = .lit (.bool true)) := by
  refine VCalls.go (nt := 69) (keep := [0, 1, 2, 3, 4, 5, 6, 7, 8, 9, 10, 15, 26, 31, 42, 50, 53, 60, 65, 68]) (muts := []) (mvs := []) [(10, .tree true (.take 0 (.take 1 (.all (.cons 2 (.all (.cons 3 (.take 4 .done) .nil)) .nil)))))] f5_at rfl (by kernel_rfl) rfl (by kernel_rfl) rfl (fun i h => by cases h) rfl ?_
  intro hok
  simp only [go_sem] at hok
  simp only [Tryz.f5, Func.code, Option.getD_some]
  simp only [go_sem]
  refine call_lend ?_
  simp only [go_sem]
  refine callN.eq (ok9 r 1048576 ⟨by omega, by omega⟩) (by simp only [go_sem]) ?_
  simp only [go_sem]
  by_cases h1 : (r.sz : Int) ≤ 1048576
  rotate_left
  · have e : szR r.sz 1048576 = -1 := szR_lt (by omega)
    rw [e]
    simp only [go_sem]
    try trivial
  · have e : szR r.sz 1048576 = 1048576 - r.sz := szR_le h1
    have n1 : ¬ ((1048576 : Int) - r.sz < 0) := by omega
    rw [e]
    simp only [go_sem, n1]
    have hz : r.sz ≤ 1048576 := by omega
    have hh := Rpl.hold_of hz
    have m1 := Rpl.k5_le hz 1
    have m2 := Rpl.ch_mw hz
    refine call_lend ?_
    simp only [go_sem]
    refine callN.eq (ok11 r hz) (by simp only [go_sem]) ?_
    simp only [go_sem]
    refine call_lend ?_
    simp only [go_sem]
    refine callN.eq (ok19 r hh) (by simp only [go_sem]) ?_
    simp only [go_sem]
    refine call_lend ?_
    simp only [go_sem]
    refine callN.eq (ok11 r hz) (by simp only [go_sem]) ?_
    simp only [go_sem]
    refine call_lend ?_
    simp only [go_sem]
    refine callN.eq (ok20 r hh) (by simp only [go_sem]) ?_
    simp only [go_sem]
    obtain ⟨C, hC⟩ : ∃ C, C = r.ch := ⟨_, rfl⟩
    rw [← hC] at m2
    refine call_lend ?_
    simp only [go_sem]
    refine callN.eq (ok21 r.ch r.ch) (by simp only [go_sem]) ?_
    simp only [go_sem]
    repeat' refine And.intro ?_ ?_
    all_goals
      refine call_lend ?_
      simp only [go_sem]
      refine callN.eq (ok11 r hz) (by simp only [go_sem]) ?_
      simp only [go_sem]
      refine call_lend ?_
      simp only [go_sem]
      refine callN.eq (ok13 r r) (by simp only [go_sem]) ?_
      simp only [go_sem]
      refine call_give 0 5 [.idx 0] rfl rfl rfl (by simp only [go_sem]; rfl) (by simp only [go_sem, List.getElem?_cons_zero, List.getElem?_cons_succ]) (by simp only [go_sem]) (by simp only [go_sem]) (by simp only [go_sem]) ?_
      simp only [go_sem, List.set]
      refine callW.eq (ok22 r 1 (by omega) (by omega)) ?_
      simp only [go_sem]
      refine ⟨Rpl.mkR_like r 1, ?_⟩
      have n2 : ¬ (r.k5 1 < 0) := by omega
      simp only [go_sem, n2]
      refine call_lend ?_
      simp only [go_sem]
      refine callN.eq (ok21 r.ch r.ch) (by simp only [go_sem]) ?_
      simp only [go_sem]
      try simp only [go_sem, bne_self_eq_false]
      rw [← hC]
      refine call_give 0 6 [] rfl rfl rfl (by simp only [go_sem]; rfl) (by simp only [go_sem, List.getElem?_cons_zero, List.getElem?_cons_succ]) (by simp only [go_sem]) (by simp only [go_sem]) (by simp only [go_sem]) ?_
      simp only [go_sem, List.set]
      refine callW.eq (okI23 C 1 (by omega) (by omega)) ?_
      simp only [go_sem]
      refine ⟨bM_len _ _, ?_⟩
      have n3 : ¬ (1 + (bT C : Int) < 0) := by omega
      refine call_lend ?_
      simp only [go_sem]
      refine callN.eq (okI24 C 1 (by omega) (by omega)) (by simp only [go_sem]) ?_
      simp only [go_sem]
      simp only [go_sem, n3]
      refine call_lend ?_
      simp only [go_sem]
      refine callN.eq (ok11 r hz) (by simp only [go_sem]) ?_
      simp only [go_sem]
      refine call_lend ?_
      simp only [go_sem]
      refine callN.eq (ok20 r hh) (by simp only [go_sem]) ?_
      simp only [go_sem]
      rw [← hC]
      refine call_lend ?_
      simp only [go_sem]
      refine callN.eq (ok21 C C) (by simp only [go_sem]) ?_
      simp only [go_sem]
      try simp only [go_sem, bne_self_eq_false]
      refine call_lend ?_
      simp only [go_sem]
      refine callN.eq (okI24 C 1 (by omega) (by omega)) (by simp only [go_sem]) ?_
      simp only [go_sem]
      simp only [go_sem, n3]
      try trivial
end Go.VS
