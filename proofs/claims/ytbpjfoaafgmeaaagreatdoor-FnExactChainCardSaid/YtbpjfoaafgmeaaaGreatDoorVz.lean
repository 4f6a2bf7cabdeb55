/- VS: functions by the machine. -/
import Derived.Test.YtbpjfoaafgmeaaaGreatDoorVq
import Derived.Test.YtbpjfoaafgmeaaaGreatDoorVf
import Derived.Test.YtbpjfoaafgmeaaaGreatDoorVr
import Derived.Test.YtbpjfoaafgmeaaaGreatDoorVy
set_option linter.unusedSimpArgs false
set_option linter.unusedVariables false
open Go.Proofs
set_option maxRecDepth 20000
namespace Go.VS
theorem f132_at : gz.P.funcs[132]? = some Tryz.f132 := by
  have h : Tryz.prog.funcs[132]? = some Tryz.f132 := by kernel_rfl
  exact h
theorem f122_at : gz.P.funcs[122]? = some Tryz.f122 := by
  have h : Tryz.prog.funcs[122]? = some Tryz.f122 := by kernel_rfl
  exact h
theorem f133_at : gz.P.funcs[133]? = some Tryz.f133 := by
  have h : Tryz.prog.funcs[133]? = some Tryz.f133 := by kernel_rfl
  exact h
theorem f91_at : gz.P.funcs[91]? = some Tryz.f91 := by
  have h : Tryz.prog.funcs[91]? = some Tryz.f91 := by kernel_rfl
  exact h
theorem ok132 (p : Prf) (hp : p.sz ≤ 1048576) : VCalls gz 132 [p.enc false] none (fun y _ => y = p.enc true) := by
  have hp2 : p.bys.length + p.tags.length ≤ 1048576 := hp
  refine VCalls.go (nt := 14) (keep := [0, 1, 2]) (muts := []) (mvs := [3]) [] f132_at rfl (by kernel_rfl) rfl (by kernel_rfl) rfl (fun i h => by cases h) rfl ?_
  intro hok
  simp only [go_sem] at hok
  simp only [Tryz.f132, Func.code, Option.getD_some]
  simp only [go_sem]
  omega
theorem ok122 (b : Blk) (hb : b.sz ≤ 1048576) : VCalls gz 122 [b.enc false] none (fun y _ => y = b.enc true) := by
  have hb2 : b.proof.sz + szL ByteArray.size b.moves ≤ 1048576 := hb
  simp only [szL] at hb2
  refine VCalls.go (nt := 13) (keep := [0, 1, 2]) (muts := []) (mvs := [3]) [] f122_at rfl (by kernel_rfl) rfl (by kernel_rfl) rfl (fun i h => by cases h) rfl ?_
  intro hok
  simp only [go_sem] at hok
  simp only [Tryz.f122, Func.code, Option.getD_some]
  simp only [go_sem]
  refine call_lend ?_
  simp only [go_sem]
  refine callN.eq (ok132 b.proof (by omega)) (by simp only [go_sem]) ?_
  simp only [go_sem]
  omega
theorem ok133 (xs : List Blk) (hl : xs.length ≤ 1048576) (hz : ∀ i, i < xs.length → Blk.sz (xs.getD i default) ≤ 1048576) : VCalls gz 133 [.lst false 8 (xs.map (Blk.enc false))] none (fun y _ => y = .lst true 8 (xs.map (Blk.enc true))) := by
  refine VCalls.go (nt := 21) (keep := [0, 2, 3, 4, 9]) (muts := []) (mvs := []) [] f133_at rfl (by kernel_rfl) rfl (by kernel_rfl) rfl (fun i h => by cases h) rfl ?_
  intro hok
  simp only [go_sem] at hok
  simp only [Tryz.f133, Func.code, Option.getD_some]
  simp only [go_sem]
  refine vm_loopK (α := Nat) (fun i => [(0, .lst false 8 (xs.map (Blk.enc false))), (3, .lst true 8 ((xs.take i).map (Blk.enc true))), (4, .lit (.int .i64 i))]) (fun i => i ≤ xs.length) (fun i => xs.length - i) 0 ?_ (by omega) (by kernel_rfl) (fun _ => rfl) ?_
  · simp only [go_sem]
    try rfl
  · intro i hi hk
    simp only [go_sem]
    intro _
    first | refine branch_ndec (fun h6 => ?_) (fun h6 => ?_) | refine branch_dec (fun h6 => ?_) (fun h6 => ?_) | refine branch_nbool (fun h6 => ?_) (fun h6 => ?_) | refine branch_split (fun h6 => ?_) (fun h6 => ?_)
    · have hlt : i < xs.length := by omega
      have h0 : (0 : Int) ≤ (i : Int) := by omega
      have hw3 : IntKind.i64.wrap ((i : Int) + 1) = ((i + 1 : Nat) : Int) := by rw [wrap64 (by omega) (by omega)]; omega
      simp only [go_sem, h0, hlt, h6]
      refine call_lend ?_
      simp only [go_sem]
      refine callN.eq (ok122 (xs.getD i default) (hz i hlt)) (by simp only [go_sem]) ?_
      simp only [go_sem]
      have hlk : (xs.take i).length = i := by rw [List.length_take]; omega
      refine ⟨by omega, ?_⟩
      rw [hw3]
      refine again_intro (i + 1) (by omega) (by omega) ?_
      simp only [go_sem]
      rw [take_succ_getD hlt, List.map_append]
      try rfl
    · have hie : i = xs.length := by omega
      subst hie
      simp only [go_sem, List.take_length]
theorem ok91 (r : Rpl) (hr : r.hold) : VCalls gz 91 [r.enc false] none (fun y _ => y = r.enc true) := by
  obtain ⟨g1, g2, g3, g4, g5, g6⟩ := hr
  refine VCalls.go (nt := 27) (keep := [0, 1, 2]) (muts := []) (mvs := [6]) [] f91_at rfl (by kernel_rfl) rfl (by kernel_rfl) rfl (fun i h => by cases h) rfl ?_
  intro hok
  simp only [go_sem] at hok
  simp only [Tryz.f91, Func.code, Option.getD_some]
  simp only [go_sem]
  refine call_lend ?_
  simp only [go_sem]
  refine callN.eq (ok132 r.high g1) (by simp only [go_sem]) ?_
  simp only [go_sem]
  refine call_lend ?_
  simp only [go_sem]
  refine callN.eq (ok133 r.blocks g2 g3) (by simp only [go_sem]) ?_
  simp only [go_sem]
  omega
end Go.VS

set_option linter.unusedSimpArgs false
set_option linter.unusedVariables false
open Go.Proofs
set_option maxRecDepth 20000
namespace Go.VS
theorem f29_at : gz.P.funcs[29]? = some Tryz.f29 := by
  have h : Tryz.prog.funcs[29]? = some Tryz.f29 := by kernel_rfl
  exact h
theorem f30_at : gz.P.funcs[30]? = some Tryz.f30 := by
  have h : Tryz.prog.funcs[30]? = some Tryz.f30 := by kernel_rfl
  exact h
theorem f8_at : gz.P.funcs[8]? = some Tryz.f8 := by
  have h : Tryz.prog.funcs[8]? = some Tryz.f8 := by kernel_rfl
  exact h
theorem Rpl.mkR_like (r : Rpl) (k : Int) : (r.mkR k).id = r.id ∧ (r.mkR k).n = r.n ∧ (r.mkR k).view = r.view ∧ (r.mkR k).voted = r.voted ∧ (r.mkR k).locked = r.locked ∧ (r.mkR k).proposed = r.proposed ∧
    ((r.mkR k).high.view = r.high.view ∧ (r.mkR k).high.name = r.high.name ∧ (r.mkR k).high.bys.length = r.high.bys.length ∧ (r.mkR k).high.tags.length = r.high.tags.length) ∧
    (r.mkR k).blocks.length = r.blocks.length ∧ (r.mkR k).votes.length = r.votes.length ∧ (r.mkR k).news.length = r.news.length ∧ (r.mkR k).done.length = r.done.length :=
  ⟨rfl, rfl, rfl, rfl, rfl, rfl, ⟨rfl, rfl, iM_len _ _, iM_len _ _⟩, bM_len _ _, vM_len _ _, nM_len _ _, iM_len _ _⟩
def Rpl.zero : Rpl := ⟨0, 0, 0, 0, 0, 0, ⟨0, 0, [], []⟩, [], [], [], []⟩
def Rpl.rst (r : Rpl) : Rpl := if r.ok = true then ⟨r.id, r.n, r.view, r.voted, r.locked, r.proposed, r.high, r.blocks, [], [], r.done⟩ else Rpl.zero
theorem ok29 (r : Rpl) (hr : r.hold) : VCalls gz 29 [r.enc false] none (fun y _ => y = r.rst.enc true) := by
  refine VCalls.go (nt := 15) (keep := [0, 1, 2, 3, 6]) (muts := []) (mvs := [6]) [] f29_at rfl (by kernel_rfl) rfl (by kernel_rfl) rfl (fun i h => by cases h) rfl ?_
  intro hok
  simp only [go_sem] at hok
  simp only [Tryz.f29, Func.code, Option.getD_some]
  simp only [go_sem]
  refine call_lend ?_
  simp only [go_sem]
  refine callN.eq (ok10 r) (by simp only [go_sem]) ?_
  simp only [go_sem]
  cases h : r.ok
  · have e : r.rst = Rpl.zero := if_neg (by rw [h]; decide)
    rw [e]
    simp only [go_sem]
    try trivial
  · have e : r.rst = ⟨r.id, r.n, r.view, r.voted, r.locked, r.proposed, r.high, r.blocks, [], [], r.done⟩ := if_pos h
    rw [e]
    simp only [go_sem]
    refine call_lend ?_
    simp only [go_sem]
    refine callN.eq (ok91 r hr) (by simp only [go_sem]) ?_
    simp only [go_sem]
    try trivial
theorem ok30 (r : Rpl) (hr : r.hold) : VCalls gz 30 [r.enc false] none (fun y _ => y = r.rst.enc true) := by
  refine VCalls.go (nt := 13) (keep := [0, 1, 2, 3, 6]) (muts := []) (mvs := [5]) [] f30_at rfl (by kernel_rfl) rfl (by kernel_rfl) rfl (fun i h => by cases h) rfl ?_
  intro hok
  simp only [go_sem] at hok
  simp only [Tryz.f30, Func.code, Option.getD_some]
  simp only [go_sem]
  refine call_lend ?_
  simp only [go_sem]
  refine callN.eq (ok12 r hr) (by simp only [go_sem]) ?_
  simp only [go_sem]
  rw [Rpl.law]
  cases h : r.ok
  · have e : r.rst = Rpl.zero := if_neg (by rw [h]; decide)
    rw [e]
    simp only [go_sem]
    try trivial
  · have e : r.rst = ⟨r.id, r.n, r.view, r.voted, r.locked, r.proposed, r.high, r.blocks, [], [], r.done⟩ := if_pos h
    rw [e]
    simp only [go_sem]
    refine call_lend ?_
    simp only [go_sem]
    refine callN.eq (ok92 r hr) (by simp only [go_sem]) ?_
    simp only [go_sem]
    try trivial
theorem bT_le : ∀ (xs : List Blk), bT xs ≤ 5 * xs.length + (xs.map Blk.sz).sum
  | [] => by simp [bT, tot]
  | x :: xs => by
    have h1 := bT_le xs
    have h2 : bT (x :: xs) = x.mw + bT xs := by simp [bT, tot]
    have h3 : x.mw ≤ 5 + x.sz := by
      have : x.sz = x.proof.bys.length + x.proof.tags.length + szL ByteArray.size x.moves := rfl
      simp only [szL] at this
      unfold Blk.mw
      omega
    simp only [List.map_cons, List.sum_cons, List.length_cons]
    omega
theorem Rpl.k5_le {r : Rpl} (h : r.sz ≤ 1048576) (k : Int) : k ≤ r.k5 k ∧ r.k5 k ≤ k + 6291456 := by
  have h2 : r.high.sz + szL Blk.sz r.blocks + r.votes.length + r.news.length + r.done.length ≤ 1048576 := h
  have h3 := bT_le r.blocks
  have h4 : r.high.mw = r.high.sz := rfl
  unfold Rpl.k5 Rpl.k4 Rpl.k3 Rpl.k2 Rpl.k1
  simp only [szL] at h2
  omega
theorem Rpl.rst_sz {r : Rpl} (h : r.sz ≤ 1048576) : r.rst.sz ≤ 1048576 := by
  have h2 : r.high.sz + szL Blk.sz r.blocks + r.votes.length + r.news.length + r.done.length ≤ 1048576 := h
  unfold Rpl.rst
  split
  · simp only [Rpl.sz, List.length_nil]
    omega
  · decide
theorem ok8 (r : Rpl) : VCalls gz 8 [r.enc false] none (fun y _ => y = .lit (.bool true)) := by
  refine VCalls.go (nt := 69) (keep := [0, 1, 2, 3, 4, 5, 6, 7, 8, 9, 10, 15, 26, 31, 42, 50, 53, 60, 65, 68]) (muts := []) (mvs := []) [(10, .tree true (.take 0 (.take 1 (.all (.cons 2 (.all (.cons 3 (.take 4 .done) .nil)) .nil)))))] f8_at rfl (by kernel_rfl) rfl (by kernel_rfl) rfl (fun i h => by cases h) rfl ?_
  intro hok
  simp only [go_sem] at hok
  simp only [Tryz.f8, Func.code, Option.getD_some]
  simp only [go_sem]
  refine call_lend ?_
  simp only [go_sem]
  refine callN.eq (ok9 r 1048576 ⟨by omega, by omega⟩) (by simp only [go_sem]) ?_
  simp only [go_sem]
  by_cases h1 : (r.sz : Int) ≤ 1048576
  rotate_left
  · have e : szR r.sz 1048576 = -1 := szR_lt (by omega)
    rw [e]
    simp only [go_sem]
    try trivial
  · have e : szR r.sz 1048576 = 1048576 - r.sz := szR_le h1
    have n1 : ¬ ((1048576 : Int) - r.sz < 0) := by omega
    rw [e]
    simp only [go_sem, n1]
    have hz : r.sz ≤ 1048576 := by omega
    have hh := Rpl.hold_of hz
    have m1 := Rpl.k5_le hz 1
    have m2 := Rpl.k5_le (Rpl.rst_sz hz) 1
    refine call_lend ?_
    simp only [go_sem]
    refine callN.eq (ok11 r hz) (by simp only [go_sem]) ?_
    simp only [go_sem]
    refine call_lend ?_
    simp only [go_sem]
    refine callN.eq (ok29 r hh) (by simp only [go_sem]) ?_
    simp only [go_sem]
    refine call_lend ?_
    simp only [go_sem]
    refine callN.eq (ok11 r hz) (by simp only [go_sem]) ?_
    simp only [go_sem]
    refine call_lend ?_
    simp only [go_sem]
    refine callN.eq (ok30 r hh) (by simp only [go_sem]) ?_
    simp only [go_sem]
    refine call_lend ?_
    simp only [go_sem]
    refine callN.eq (ok13 r.rst r.rst) (by simp only [go_sem]) ?_
    simp only [go_sem]
    repeat' refine And.intro ?_ ?_
    all_goals
      refine call_lend ?_
      simp only [go_sem]
      refine callN.eq (ok11 r hz) (by simp only [go_sem]) ?_
      simp only [go_sem]
      refine call_lend ?_
      simp only [go_sem]
      refine callN.eq (ok13 r r) (by simp only [go_sem]) ?_
      simp only [go_sem]
      refine call_give 0 5 [.idx 0] rfl rfl rfl (by simp only [go_sem]; rfl) (by simp only [go_sem, List.getElem?_cons_zero, List.getElem?_cons_succ]) (by simp only [go_sem]) (by simp only [go_sem]) (by simp only [go_sem]) ?_
      simp only [go_sem, List.set]
      refine callW.eq (ok22 r 1 (by omega) (by omega)) ?_
      simp only [go_sem]
      refine ⟨Rpl.mkR_like r 1, ?_⟩
      have n2 : ¬ (r.k5 1 < 0) := by omega
      simp only [go_sem, n2]
      refine call_lend ?_
      simp only [go_sem]
      refine callN.eq (ok13 r.rst r.rst) (by simp only [go_sem]) ?_
      simp only [go_sem]
      try simp only [go_sem, bne_self_eq_false]
      refine call_give 0 6 [.idx 0] rfl rfl rfl (by simp only [go_sem]; rfl) (by simp only [go_sem, List.getElem?_cons_zero, List.getElem?_cons_succ]) (by simp only [go_sem]) (by simp only [go_sem]) (by simp only [go_sem]) ?_
      simp only [go_sem, List.set]
      refine callW.eq (ok22 r.rst 1 (by omega) (by omega)) ?_
      simp only [go_sem]
      refine ⟨Rpl.mkR_like r.rst 1, ?_⟩
      have n3 : ¬ (r.rst.k5 1 < 0) := by omega
      refine call_lend ?_
      simp only [go_sem]
      refine callN.eq (ok31 r.rst 1 (by omega) (by omega)) (by simp only [go_sem]) ?_
      simp only [go_sem]
      simp only [go_sem, n3]
      refine call_lend ?_
      simp only [go_sem]
      refine callN.eq (ok11 r hz) (by simp only [go_sem]) ?_
      simp only [go_sem]
      refine call_lend ?_
      simp only [go_sem]
      refine callN.eq (ok30 r hh) (by simp only [go_sem]) ?_
      simp only [go_sem]
      refine call_lend ?_
      simp only [go_sem]
      refine callN.eq (ok13 r.rst r.rst) (by simp only [go_sem]) ?_
      simp only [go_sem]
      try simp only [go_sem, bne_self_eq_false]
      refine call_lend ?_
      simp only [go_sem]
      refine callN.eq (ok31 r.rst 1 (by omega) (by omega)) (by simp only [go_sem]) ?_
      simp only [go_sem]
      simp only [go_sem, n3]
      try trivial
end Go.VS
