/- VS: functions by the machine. -/
import Derived.Test.YtbpjfoaafgmeaaaGreatDoorVh
import Derived.Test.YtbpjfoaafgmeaaaGreatDoorVf
set_option linter.unusedSimpArgs false
set_option linter.unusedVariables false
open Go.Proofs
set_option maxRecDepth 20000
namespace Go.VS
/-- a message -/
structure Msg where
  kind : Int
  src : Int
  dst : Int
  view : Int
  block : Blk
  vote : Vot
  proof : Prf
instance : DecidableEq Msg := fun a b => by
  cases a; cases b; simp only [Msg.mk.injEq]; infer_instance
instance : Inhabited Msg := ⟨⟨0, 0, 0, 0, default, default, default⟩⟩
instance : Inhabited Rpl := ⟨⟨0, 0, 0, 0, 0, 0, default, [], [], [], []⟩⟩
def Msg.enc (own : Bool) (m : Msg) : AVal := .agg [.lit (.int .i64 m.kind), .lit (.int .i64 m.src), .lit (.int .i64 m.dst), .lit (.int .i64 m.view), m.block.enc own, m.vote.enc, m.proof.enc own]
/-- a cluster -/
structure Clu where
  reps : List Rpl
  net : List Msg
instance : DecidableEq Clu := fun a b => by
  cases a; cases b; simp only [Clu.mk.injEq]; infer_instance
def Clu.enc (own : Bool) (c : Clu) : AVal := .agg [.lst own 14 (c.reps.map (Rpl.enc own)), .lst own 20 (c.net.map (Msg.enc own))]
theorem Msg.enc_eq {own : Bool} {m : Msg} : Msg.enc own m = .agg [.lit (.int .i64 m.kind), .lit (.int .i64 m.src), .lit (.int .i64 m.dst), .lit (.int .i64 m.view), m.block.enc own, m.vote.enc, m.proof.enc own] := nr rfl
theorem Clu.enc_eq {own : Bool} {c : Clu} : Clu.enc own c = .agg [.lst own 14 (c.reps.map (Rpl.enc own)), .lst own 20 (c.net.map (Msg.enc own))] := nr rfl
attribute [go_sem] Msg.enc_eq Clu.enc_eq
theorem rplNoRefs {own : Bool} {xs : List Rpl} : noRefs (xs.map (Rpl.enc own)) = true := noRefs_map fun x => by simp only [go_sem]
theorem rplClosed {xs : List Rpl} : closedAs (xs.map (Rpl.enc true)) = true := closedAs_map fun x => by simp only [go_sem]
theorem rplFlat {xs : List Rpl} : flatAs (xs.map (Rpl.enc false)) = true := flatAs_map fun x => by simp only [go_sem]
theorem rplShds {own : Bool} {xs : List Rpl} : toShds (xs.map (Rpl.enc own)) = xs.map (Rpl.enc false) := toShds_mapTo fun x => by cases own <;> simp only [go_sem]
theorem msgNoRefs {own : Bool} {xs : List Msg} : noRefs (xs.map (Msg.enc own)) = true := noRefs_map fun x => by simp only [go_sem]
theorem msgClosed {xs : List Msg} : closedAs (xs.map (Msg.enc true)) = true := closedAs_map fun x => by simp only [go_sem]
theorem msgFlat {xs : List Msg} : flatAs (xs.map (Msg.enc false)) = true := flatAs_map fun x => by simp only [go_sem]
theorem msgShds {own : Bool} {xs : List Msg} : toShds (xs.map (Msg.enc own)) = xs.map (Msg.enc false) := toShds_mapTo fun x => by cases own <;> simp only [go_sem]
attribute [go_sem] rplNoRefs rplClosed rplFlat rplShds msgNoRefs msgClosed msgFlat msgShds
end Go.VS

set_option linter.unusedSimpArgs false
set_option linter.unusedVariables false
open Go.Proofs
set_option maxRecDepth 20000
namespace Go.VS
theorem f118_at : gz.P.funcs[118]? = some Tryz.f118 := by
  have h : Tryz.prog.funcs[118]? = some Tryz.f118 := by kernel_rfl
  exact h
theorem f70_at : gz.P.funcs[70]? = some Tryz.f70 := by
  have h : Tryz.prog.funcs[70]? = some Tryz.f70 := by kernel_rfl
  exact h
theorem f69_at : gz.P.funcs[69]? = some Tryz.f69 := by
  have h : Tryz.prog.funcs[69]? = some Tryz.f69 := by kernel_rfl
  exact h
theorem f14_at : gz.P.funcs[14]? = some Tryz.f14 := by
  have h : Tryz.prog.funcs[14]? = some Tryz.f14 := by kernel_rfl
  exact h
def Msg.sz (m : Msg) : Nat := m.block.sz + m.proof.sz
theorem ok118 (m : Msg) (left : Int) (hl : room left) : VCalls gz 118 [m.enc false, .lit (.int .i64 left)] none (fun y _ => y = .lit (.int .i64 (szR m.sz left))) := by
  obtain ⟨hl1, hl2⟩ := hl
  have hz : m.sz = m.block.sz + m.proof.sz := rfl
  refine VCalls.go (nt := 18) (keep := [0, 1, 2, 4, 10, 16]) (muts := []) (mvs := []) [] f118_at rfl (by kernel_rfl) rfl (by kernel_rfl) rfl (fun i h => by cases h) rfl ?_
  intro hok
  simp only [go_sem] at hok
  simp only [Tryz.f118, Func.code, Option.getD_some]
  simp only [go_sem]
  obtain ⟨A1, g1⟩ : ∃ A, A = m.block.sz := ⟨_, rfl⟩
  refine call_lend ?_
  simp only [go_sem]
  refine callN.eq (ok96 m.block left ⟨hl1, hl2⟩) (by simp only [go_sem]) ?_
  simp only [go_sem]
  rw [← g1]
  by_cases h1 : (A1 : Int) ≤ left
  rotate_left
  · rw [show szR A1 left = -1 from szR_lt (by omega)]
    simp only [go_sem]
    rw [szR_lt (by omega)]
  rw [show szR A1 left = left - (A1 : Int) from szR_le h1]
  have n1 : ¬ (left - (A1 : Int) < 0) := by omega
  simp only [n1, decide_false]
  simp only [go_sem]
  refine call_lend ?_
  simp only [go_sem]
  refine callN.eq (ok32 m.proof _ ⟨by omega, by omega⟩) (by simp only [go_sem]) ?_
  simp only [go_sem]
  obtain ⟨A2, g2⟩ : ∃ A, A = A1 + m.proof.sz := ⟨_, rfl⟩
  rw [szR_add h1, ← g2]
  by_cases h2 : (A2 : Int) ≤ left
  rotate_left
  · rw [show szR A2 left = -1 from szR_lt (by omega)]
    simp only [go_sem]
    rw [szR_lt (by omega)]
  rw [show szR A2 left = left - (A2 : Int) from szR_le h2]
  have n2 : ¬ (left - (A2 : Int) < 0) := by omega
  simp only [n2, decide_false]
  simp only [go_sem]
  rw [szR_le (by omega)]
  simp only [show m.sz = A2 by omega]
theorem ok70 (xs : List Msg) (left : Int) (hl : room left) : VCalls gz 70 [.lst false 20 (xs.map (Msg.enc false)), .lit (.int .i64 left)] none (fun y _ => y = .lit (.int .i64 (szR (szL Msg.sz xs) left))) := by
  obtain ⟨hl1, hl2⟩ := hl
  refine VCalls.go (nt := 27) (keep := [0, 1, 4, 5, 11, 15, 25]) (muts := []) (mvs := []) [] f70_at rfl (by kernel_rfl) rfl (by kernel_rfl) rfl (fun i h => by cases h) rfl ?_
  intro hok
  simp only [go_sem] at hok
  simp only [Tryz.f70, Func.code, Option.getD_some]
  simp only [go_sem]
  intro hm
  have hw : IntKind.i64.wrap (left - (xs.length : Int)) = left - (xs.length : Int) := wrap64 (by omega) (by omega)
  simp only [go_sem, hw]
  first | refine branch_ndec (fun h => ?_) (fun h => ?_) | refine branch_dec (fun h => ?_) (fun h => ?_) | refine branch_nbool (fun h => ?_) (fun h => ?_) | refine branch_split (fun h => ?_) (fun h => ?_)
  · simp only [go_sem]
    rw [szR_lt (by have := szN_le Msg.sz xs 0; rw [szN_zero] at this; omega)]
  · simp only [go_sem]
    refine vm_loopK (α := Nat) (fun i => [(0, .lst false 20 (xs.map (Msg.enc false))), (1, .lit (.int .i64 (left - szN Msg.sz xs i))), (4, .lit (.int .i64 0)), (5, .lit (.int .i64 i))]) (fun i => i ≤ xs.length ∧ (szN Msg.sz xs i : Int) ≤ left) (fun i => xs.length - i) 0 ?_ ⟨by omega, by rw [szN_zero]; omega⟩ (by kernel_rfl) (fun _ => rfl) ?_
    · simp only [go_sem, szN_zero]
      try trivial
    · rintro i ⟨hi, hs⟩ hk
      simp only [go_sem]
      intro _
      first | refine branch_ndec (fun h2 => ?_) (fun h2 => ?_) | refine branch_dec (fun h2 => ?_) (fun h2 => ?_) | refine branch_nbool (fun h2 => ?_) (fun h2 => ?_) | refine branch_split (fun h2 => ?_) (fun h2 => ?_)
      · have hlt : i < xs.length := by omega
        have h0 : (0 : Int) ≤ (i : Int) := by omega
        have hn := szN_succ Msg.sz xs hlt
        simp only [go_sem, h0, hlt]
        refine ⟨h2, ?_⟩
        refine call_lend ?_
        simp only [go_sem]
        refine callN.eq (ok118 (xs.getD i default) (left - szN Msg.sz xs i) ⟨by omega, by omega⟩) (by simp only [go_sem]) ?_
        simp only [go_sem]
        rw [szR_add hs, ← hn]
        by_cases h3 : (szN Msg.sz xs (i + 1) : Int) ≤ left
        · have e3 : szR (szN Msg.sz xs (i + 1)) left = left - (szN Msg.sz xs (i + 1) : Nat) := szR_le h3
          rw [e3]
          have h4 : ¬ (left - (szN Msg.sz xs (i + 1) : Int) < 0) := by omega
          have hw3 : IntKind.i64.wrap ((i : Int) + 1) = ((i + 1 : Nat) : Int) := by rw [wrap64 (by omega) (by omega)]; omega
          simp only [h4, decide_false]
          simp only [go_sem, hw3]
          refine again_intro (i + 1) ⟨by omega, by omega⟩ (by omega) ?_
          simp only [go_sem]
          try trivial
        · have e3 : szR (szN Msg.sz xs (i + 1)) left = -1 := szR_lt (by omega)
          rw [e3]
          simp only [go_sem]
          rw [szR_lt (by have := szN_le Msg.sz xs (i + 1); omega)]
      · simp only [go_sem]
        have : i = xs.length := by omega
        subst this
        rw [szN_len] at hs ⊢
        rw [szR_le hs]
theorem ok69 (xs : List Rpl) (left : Int) (hl : room left) : VCalls gz 69 [.lst false 14 (xs.map (Rpl.enc false)), .lit (.int .i64 left)] none (fun y _ => y = .lit (.int .i64 (szR (szL Rpl.sz xs) left))) := by
  obtain ⟨hl1, hl2⟩ := hl
  refine VCalls.go (nt := 27) (keep := [0, 1, 4, 5, 11, 15, 25]) (muts := []) (mvs := []) [] f69_at rfl (by kernel_rfl) rfl (by kernel_rfl) rfl (fun i h => by cases h) rfl ?_
  intro hok
  simp only [go_sem] at hok
  simp only [Tryz.f69, Func.code, Option.getD_some]
  simp only [go_sem]
  intro hm
  have hw : IntKind.i64.wrap (left - (xs.length : Int)) = left - (xs.length : Int) := wrap64 (by omega) (by omega)
  simp only [go_sem, hw]
  first | refine branch_ndec (fun h => ?_) (fun h => ?_) | refine branch_dec (fun h => ?_) (fun h => ?_) | refine branch_nbool (fun h => ?_) (fun h => ?_) | refine branch_split (fun h => ?_) (fun h => ?_)
  · simp only [go_sem]
    rw [szR_lt (by have := szN_le Rpl.sz xs 0; rw [szN_zero] at this; omega)]
  · simp only [go_sem]
    refine vm_loopK (α := Nat) (fun i => [(0, .lst false 14 (xs.map (Rpl.enc false))), (1, .lit (.int .i64 (left - szN Rpl.sz xs i))), (4, .lit (.int .i64 0)), (5, .lit (.int .i64 i))]) (fun i => i ≤ xs.length ∧ (szN Rpl.sz xs i : Int) ≤ left) (fun i => xs.length - i) 0 ?_ ⟨by omega, by rw [szN_zero]; omega⟩ (by kernel_rfl) (fun _ => rfl) ?_
    · simp only [go_sem, szN_zero]
      try trivial
    · rintro i ⟨hi, hs⟩ hk
      simp only [go_sem]
      intro _
      first | refine branch_ndec (fun h2 => ?_) (fun h2 => ?_) | refine branch_dec (fun h2 => ?_) (fun h2 => ?_) | refine branch_nbool (fun h2 => ?_) (fun h2 => ?_) | refine branch_split (fun h2 => ?_) (fun h2 => ?_)
      · have hlt : i < xs.length := by omega
        have h0 : (0 : Int) ≤ (i : Int) := by omega
        have hn := szN_succ Rpl.sz xs hlt
        simp only [go_sem, h0, hlt]
        refine ⟨h2, ?_⟩
        refine call_lend ?_
        simp only [go_sem]
        refine callN.eq (ok9 (xs.getD i default) (left - szN Rpl.sz xs i) ⟨by omega, by omega⟩) (by simp only [go_sem]) ?_
        simp only [go_sem]
        rw [szR_add hs, ← hn]
        by_cases h3 : (szN Rpl.sz xs (i + 1) : Int) ≤ left
        · have e3 : szR (szN Rpl.sz xs (i + 1)) left = left - (szN Rpl.sz xs (i + 1) : Nat) := szR_le h3
          rw [e3]
          have h4 : ¬ (left - (szN Rpl.sz xs (i + 1) : Int) < 0) := by omega
          have hw3 : IntKind.i64.wrap ((i : Int) + 1) = ((i + 1 : Nat) : Int) := by rw [wrap64 (by omega) (by omega)]; omega
          simp only [h4, decide_false]
          simp only [go_sem, hw3]
          refine again_intro (i + 1) ⟨by omega, by omega⟩ (by omega) ?_
          simp only [go_sem]
          try trivial
        · have e3 : szR (szN Rpl.sz xs (i + 1)) left = -1 := szR_lt (by omega)
          rw [e3]
          simp only [go_sem]
          rw [szR_lt (by have := szN_le Rpl.sz xs (i + 1); omega)]
      · simp only [go_sem]
        have : i = xs.length := by omega
        subst this
        rw [szN_len] at hs ⊢
        rw [szR_le hs]
def Clu.sz (c : Clu) : Nat := szL Rpl.sz c.reps + szL Msg.sz c.net
theorem ok14 (c : Clu) (left : Int) (hl : room left) : VCalls gz 14 [c.enc false, .lit (.int .i64 left)] none (fun y _ => y = .lit (.int .i64 (szR c.sz left))) := by
  obtain ⟨hl1, hl2⟩ := hl
  have hz : c.sz = szL Rpl.sz c.reps + szL Msg.sz c.net := rfl
  refine VCalls.go (nt := 18) (keep := [0, 1, 2, 4, 10, 16]) (muts := []) (mvs := []) [] f14_at rfl (by kernel_rfl) rfl (by kernel_rfl) rfl (fun i h => by cases h) rfl ?_
  intro hok
  simp only [go_sem] at hok
  simp only [Tryz.f14, Func.code, Option.getD_some]
  simp only [go_sem]
  obtain ⟨A1, g1⟩ : ∃ A, A = szL Rpl.sz c.reps := ⟨_, rfl⟩
  refine call_lend ?_
  simp only [go_sem]
  refine callN.eq (ok69 c.reps left ⟨hl1, hl2⟩) (by simp only [go_sem]) ?_
  simp only [go_sem]
  rw [← g1]
  by_cases h1 : (A1 : Int) ≤ left
  rotate_left
  · rw [show szR A1 left = -1 from szR_lt (by omega)]
    simp only [go_sem]
    rw [szR_lt (by omega)]
  rw [show szR A1 left = left - (A1 : Int) from szR_le h1]
  have n1 : ¬ (left - (A1 : Int) < 0) := by omega
  simp only [n1, decide_false]
  simp only [go_sem]
  refine call_lend ?_
  simp only [go_sem]
  refine callN.eq (ok70 c.net _ ⟨by omega, by omega⟩) (by simp only [go_sem]) ?_
  simp only [go_sem]
  obtain ⟨A2, g2⟩ : ∃ A, A = A1 + (szL Msg.sz c.net) := ⟨_, rfl⟩
  rw [szR_add h1, ← g2]
  by_cases h2 : (A2 : Int) ≤ left
  rotate_left
  · rw [show szR A2 left = -1 from szR_lt (by omega)]
    simp only [go_sem]
    rw [szR_lt (by omega)]
  rw [show szR A2 left = left - (A2 : Int) from szR_le h2]
  have n2 : ¬ (left - (A2 : Int) < 0) := by omega
  simp only [n2, decide_false]
  simp only [go_sem]
  rw [szR_le (by omega)]
  simp only [show c.sz = A2 by omega]
end Go.VS

set_option linter.unusedSimpArgs false
set_option linter.unusedVariables false
open Go.Proofs
set_option maxRecDepth 20000
namespace Go.VS
theorem f119_at : gz.P.funcs[119]? = some Tryz.f119 := by
  have h : Tryz.prog.funcs[119]? = some Tryz.f119 := by kernel_rfl
  exact h
theorem f72_at : gz.P.funcs[72]? = some Tryz.f72 := by
  have h : Tryz.prog.funcs[72]? = some Tryz.f72 := by kernel_rfl
  exact h
theorem f71_at : gz.P.funcs[71]? = some Tryz.f71 := by
  have h : Tryz.prog.funcs[71]? = some Tryz.f71 := by kernel_rfl
  exact h
theorem f16_at : gz.P.funcs[16]? = some Tryz.f16 := by
  have h : Tryz.prog.funcs[16]? = some Tryz.f16 := by kernel_rfl
  exact h
theorem ok119 (m : Msg) (hm : m.sz ≤ 1048576) : VCalls gz 119 [m.enc false] none (fun y _ => y = m.enc true) := by
  have hm2 : m.block.sz + m.proof.sz ≤ 1048576 := hm
  refine VCalls.go (nt := 29) (keep := [0, 1, 2, 3]) (muts := []) (mvs := [9]) [] f119_at rfl (by kernel_rfl) rfl (by kernel_rfl) rfl (fun i h => by cases h) rfl ?_
  intro hok
  simp only [go_sem] at hok
  simp only [Tryz.f119, Func.code, Option.getD_some]
  simp only [go_sem]
  refine call_lend ?_
  simp only [go_sem]
  refine callN.eq (ok105 m.block (by omega)) (by simp only [go_sem]) ?_
  simp only [go_sem]
  refine call_lend ?_
  simp only [go_sem]
  refine callN.eq (ok106 m.vote) (by simp only [go_sem]) ?_
  simp only [go_sem]
  refine call_lend ?_
  simp only [go_sem]
  refine callN.eq (ok46 m.proof (by omega)) (by simp only [go_sem]) ?_
  simp only [go_sem]
theorem ok72 (xs : List Msg) (hs : xs.length ≤ 1048576) (hz : ∀ i, i < xs.length → Msg.sz (xs.getD i default) ≤ 1048576) : VCalls gz 72 [.lst false 20 (xs.map (Msg.enc false))] none (fun y _ => y = .lst true 20 (xs.map (Msg.enc true))) := by
  refine VCalls.go (nt := 23) (keep := [0, 2, 3, 4, 11]) (muts := []) (mvs := [5]) [] f72_at rfl (by kernel_rfl) rfl (by kernel_rfl) rfl (fun i h => by cases h) rfl ?_
  intro hok
  simp only [go_sem] at hok
  simp only [Tryz.f72, Func.code, Option.getD_some]
  simp only [go_sem]
  intro hm
  refine ⟨by omega, by omega, ⟨by omega, by omega⟩, ?_⟩
  refine vm_loopK (α := Nat) (fun i => [(0, .lst false 20 (xs.map (Msg.enc false))), (3, .lst true 20 ((midL xs (List.replicate xs.length default) i).map (Msg.enc true))), (4, .lit (.int .i64 i))]) (fun i => i ≤ xs.length) (fun i => xs.length - i) 0 ?_ (by omega) (by kernel_rfl) (fun _ => rfl) ?_
  · simp only [go_sem]
    refine ⟨?_, rfl⟩
    rw [midL_zero, List.map_replicate]
    rfl
  · intro i hi hk
    have hml : (midL xs (List.replicate xs.length default) i).length = xs.length := midL_length hi (by simp)
    simp only [go_sem]
    intro _
    first | refine branch_ndec (fun h2 => ?_) (fun h2 => ?_) | refine branch_dec (fun h2 => ?_) (fun h2 => ?_) | refine branch_nbool (fun h2 => ?_) (fun h2 => ?_) | refine branch_split (fun h2 => ?_) (fun h2 => ?_)
    · have hlt : i < xs.length := by omega
      have h0 : (0 : Int) ≤ (i : Int) := by omega
      have hset := midL_set xs (List.replicate xs.length default) hlt (by simp)
      have hw3 : IntKind.i64.wrap ((i : Int) + 1) = ((i + 1 : Nat) : Int) := by rw [wrap64 (by omega) (by omega)]; omega
      simp only [go_sem, h0, hlt, h2]
      refine call_lend ?_
      simp only [go_sem]
      refine callN.eq (ok119 (xs.getD i default) (hz i hlt)) (by simp only [go_sem]) ?_
      simp only [go_sem]
      simp only [go_sem, h0, hlt, h2, hml, hw3, hset]
      refine again_intro (i + 1) (by omega) (by omega) ?_
      simp only [go_sem]
      first | trivial | exact (modify_enc (f := (Msg.enc true)) (v := xs.getD i default) rfl).trans (by rw [hset])
    · simp only [go_sem]
      have : i = xs.length := by omega
      subst this
      rw [midL_all xs (by simp)]
theorem ok71 (xs : List Rpl) (hs : xs.length ≤ 1048576) (hz : ∀ i, i < xs.length → Rpl.sz (xs.getD i default) ≤ 1048576) : VCalls gz 71 [.lst false 14 (xs.map (Rpl.enc false))] none (fun y _ => y = .lst true 14 (xs.map (Rpl.enc true))) := by
  refine VCalls.go (nt := 23) (keep := [0, 2, 3, 4, 11]) (muts := []) (mvs := [5]) [] f71_at rfl (by kernel_rfl) rfl (by kernel_rfl) rfl (fun i h => by cases h) rfl ?_
  intro hok
  simp only [go_sem] at hok
  simp only [Tryz.f71, Func.code, Option.getD_some]
  simp only [go_sem]
  intro hm
  refine ⟨by omega, by omega, ⟨by omega, by omega⟩, ?_⟩
  refine vm_loopK (α := Nat) (fun i => [(0, .lst false 14 (xs.map (Rpl.enc false))), (3, .lst true 14 ((midL xs (List.replicate xs.length default) i).map (Rpl.enc true))), (4, .lit (.int .i64 i))]) (fun i => i ≤ xs.length) (fun i => xs.length - i) 0 ?_ (by omega) (by kernel_rfl) (fun _ => rfl) ?_
  · simp only [go_sem]
    refine ⟨?_, rfl⟩
    rw [midL_zero, List.map_replicate]
    rfl
  · intro i hi hk
    have hml : (midL xs (List.replicate xs.length default) i).length = xs.length := midL_length hi (by simp)
    simp only [go_sem]
    intro _
    first | refine branch_ndec (fun h2 => ?_) (fun h2 => ?_) | refine branch_dec (fun h2 => ?_) (fun h2 => ?_) | refine branch_nbool (fun h2 => ?_) (fun h2 => ?_) | refine branch_split (fun h2 => ?_) (fun h2 => ?_)
    · have hlt : i < xs.length := by omega
      have h0 : (0 : Int) ≤ (i : Int) := by omega
      have hset := midL_set xs (List.replicate xs.length default) hlt (by simp)
      have hw3 : IntKind.i64.wrap ((i : Int) + 1) = ((i + 1 : Nat) : Int) := by rw [wrap64 (by omega) (by omega)]; omega
      simp only [go_sem, h0, hlt, h2]
      refine call_lend ?_
      simp only [go_sem]
      refine callN.eq (ok11 (xs.getD i default) (hz i hlt)) (by simp only [go_sem]) ?_
      simp only [go_sem]
      simp only [go_sem, h0, hlt, h2, hml, hw3, hset]
      refine again_intro (i + 1) (by omega) (by omega) ?_
      simp only [go_sem]
      first | trivial | exact (modify_enc (f := (Rpl.enc true)) (v := xs.getD i default) rfl).trans (by rw [hset])
    · simp only [go_sem]
      have : i = xs.length := by omega
      subst this
      rw [midL_all xs (by simp)]
theorem ok16 (c : Clu) (hc : c.sz ≤ 1048576) : VCalls gz 16 [c.enc false] none (fun y _ => y = c.enc true) := by
  have hc2 : szL Rpl.sz c.reps + szL Msg.sz c.net ≤ 1048576 := hc
  have hz1 : ∀ i, i < c.reps.length → Rpl.sz (c.reps.getD i default) ≤ 1048576 := fun i hi => by
    have := getD_sz (f := Rpl.sz) hi
    omega
  have hz2 : ∀ i, i < c.net.length → Msg.sz (c.net.getD i default) ≤ 1048576 := fun i hi => by
    have := getD_sz (f := Msg.sz) hi
    omega
  have hl1 : c.reps.length ≤ 1048576 := by
    have : szL Rpl.sz c.reps = c.reps.length + (c.reps.map Rpl.sz).sum := rfl
    omega
  have hl2 : c.net.length ≤ 1048576 := by
    have : szL Msg.sz c.net = c.net.length + (c.net.map Msg.sz).sum := rfl
    omega
  refine VCalls.go (nt := 13) (keep := [0, 1, 2, 3]) (muts := []) (mvs := [4]) [] f16_at rfl (by kernel_rfl) rfl (by kernel_rfl) rfl (fun i h => by cases h) rfl ?_
  intro hok
  simp only [go_sem] at hok
  simp only [Tryz.f16, Func.code, Option.getD_some]
  simp only [go_sem]
  refine call_lend ?_
  simp only [go_sem]
  refine callN.eq (ok71 c.reps hl1 hz1) (by simp only [go_sem]) ?_
  simp only [go_sem]
  refine call_lend ?_
  simp only [go_sem]
  refine callN.eq (ok72 c.net hl2 hz2) (by simp only [go_sem]) ?_
  simp only [go_sem]
end Go.VS

set_option linter.unusedSimpArgs false
set_option linter.unusedVariables false
open Go.Proofs
set_option maxRecDepth 20000
namespace Go.VS
theorem f121_at : gz.P.funcs[121]? = some Tryz.f121 := by
  have h : Tryz.prog.funcs[121]? = some Tryz.f121 := by kernel_rfl
  exact h
theorem f76_at : gz.P.funcs[76]? = some Tryz.f76 := by
  have h : Tryz.prog.funcs[76]? = some Tryz.f76 := by kernel_rfl
  exact h
theorem f75_at : gz.P.funcs[75]? = some Tryz.f75 := by
  have h : Tryz.prog.funcs[75]? = some Tryz.f75 := by kernel_rfl
  exact h
theorem f18_at : gz.P.funcs[18]? = some Tryz.f18 := by
  have h : Tryz.prog.funcs[18]? = some Tryz.f18 := by kernel_rfl
  exact h
theorem ok121 (p q : Msg) : VCalls gz 121 [p.enc false, q.enc false] none (fun y _ => y = .lit (.bool (decide (p = q)))) := by
  refine VCalls.go (nt := 43) (keep := [0, 1, 2, 3, 4, 9, 14, 19, 24, 30, 36, 42]) (muts := []) (mvs := []) [] f121_at rfl (by kernel_rfl) rfl (by kernel_rfl) rfl (fun i h => by cases h) rfl ?_
  intro hok
  simp only [go_sem] at hok
  simp only [Tryz.f121, Func.code, Option.getD_some]
  simp only [go_sem]
  first | refine branch_ndec (fun h1 => ?_) (fun h1 => ?_) | refine branch_dec (fun h1 => ?_) (fun h1 => ?_) | refine branch_nbool (fun h1 => ?_) (fun h1 => ?_) | refine branch_split (fun h1 => ?_) (fun h1 => ?_)
  rotate_left
  · have : ¬ p = q := fun e => h1 (by rw [e])
    simp only [go_sem, this]
  simp only [go_sem]
  first | refine branch_ndec (fun h2 => ?_) (fun h2 => ?_) | refine branch_dec (fun h2 => ?_) (fun h2 => ?_) | refine branch_nbool (fun h2 => ?_) (fun h2 => ?_) | refine branch_split (fun h2 => ?_) (fun h2 => ?_)
  rotate_left
  · have : ¬ p = q := fun e => h2 (by rw [e])
    simp only [go_sem, this]
  simp only [go_sem]
  first | refine branch_ndec (fun h3 => ?_) (fun h3 => ?_) | refine branch_dec (fun h3 => ?_) (fun h3 => ?_) | refine branch_nbool (fun h3 => ?_) (fun h3 => ?_) | refine branch_split (fun h3 => ?_) (fun h3 => ?_)
  rotate_left
  · have : ¬ p = q := fun e => h3 (by rw [e])
    simp only [go_sem, this]
  simp only [go_sem]
  first | refine branch_ndec (fun h4 => ?_) (fun h4 => ?_) | refine branch_dec (fun h4 => ?_) (fun h4 => ?_) | refine branch_nbool (fun h4 => ?_) (fun h4 => ?_) | refine branch_split (fun h4 => ?_) (fun h4 => ?_)
  rotate_left
  · have : ¬ p = q := fun e => h4 (by rw [e])
    simp only [go_sem, this]
  simp only [go_sem]
  refine call_lend ?_
  simp only [go_sem]
  refine callN.eq (ok79 p.block q.block) (by simp only [go_sem]) ?_
  simp only [go_sem]
  by_cases h5 : p.block = q.block
  rotate_left
  · have : ¬ p = q := fun e => h5 (by rw [e])
    simp only [go_sem, h5, this]
  simp only [go_sem, eq_true h5]
  refine call_lend ?_
  simp only [go_sem]
  refine callN.eq (ok116 p.vote q.vote) (by simp only [go_sem]) ?_
  simp only [go_sem]
  by_cases h6 : p.vote = q.vote
  rotate_left
  · have : ¬ p = q := fun e => h6 (by rw [e])
    simp only [go_sem, h6, this]
  simp only [go_sem, eq_true h6]
  refine call_lend ?_
  simp only [go_sem]
  refine callN.eq (ok65 p.proof q.proof) (by simp only [go_sem]) ?_
  simp only [go_sem]
  by_cases h7 : p.proof = q.proof
  rotate_left
  · have : ¬ p = q := fun e => h7 (by rw [e])
    simp only [go_sem, h7, this]
  simp only [go_sem, eq_true h7]
  have : p = q := by cases p; cases q; simp_all
  simp only [go_sem, eq_true this]
theorem ok76 (xs ys : List Msg) : VCalls gz 76 [.lst false 20 (xs.map (Msg.enc false)), .lst false 20 (ys.map (Msg.enc false))] none (fun y _ => y = .lit (.bool (decide (xs = ys)))) := by
  refine VCalls.go (nt := 27) (keep := [0, 1, 4, 5, 10, 14, 26]) (muts := []) (mvs := []) [(6, .tree true (.take 0 (.take 1 (.take 2 (.take 3 (.take 4 (.take 5 (.take 6 (.take 7 (.all (.cons 8 (.take 9 .done) .nil)))))))))))] f76_at rfl (by kernel_rfl) rfl (by kernel_rfl) rfl (fun i h => by cases h) rfl ?_
  intro hok
  simp only [go_sem] at hok
  simp only [Tryz.f76, Func.code, Option.getD_some]
  simp only [go_sem]
  intro hm hm2
  first | refine branch_ndec (fun h => ?_) (fun h => ?_) | refine branch_dec (fun h => ?_) (fun h => ?_) | refine branch_nbool (fun h => ?_) (fun h => ?_) | refine branch_split (fun h => ?_) (fun h => ?_)
  rotate_left
  · simp only [go_sem]
    have : ¬ xs = ys := fun e => h (by rw [e])
    simp only [this, decide_false]
  · have hll : xs.length = ys.length := by omega
    simp only [go_sem]
    refine vm_loopK (α := Nat) (fun i => [(0, .lst false 20 (xs.map (Msg.enc false))), (1, .lst false 20 (ys.map (Msg.enc false))), (4, .lit (.bool false)), (5, .lit (.int .i64 i))]) (fun i => i ≤ xs.length ∧ ∀ j, j < i → xs.getD j default = ys.getD j default) (fun i => xs.length - i) 0 ?_ ⟨by omega, fun j hj => by omega⟩ (by kernel_rfl) (fun _ => rfl) ?_
    · simp only [go_sem]
      try trivial
    · rintro i ⟨hi, he⟩ hk
      simp only [go_sem]
      intro _
      first | refine branch_ndec (fun h2 => ?_) (fun h2 => ?_) | refine branch_dec (fun h2 => ?_) (fun h2 => ?_) | refine branch_nbool (fun h2 => ?_) (fun h2 => ?_) | refine branch_split (fun h2 => ?_) (fun h2 => ?_)
      · have hlt : i < xs.length := by omega
        have hlt2 : i < ys.length := by omega
        have h0 : (0 : Int) ≤ (i : Int) := by omega
        have h3 : (i : Int) < (ys.length : Int) := by omega
        have hw3 : IntKind.i64.wrap ((i : Int) + 1) = ((i + 1 : Nat) : Int) := by rw [wrap64 (by omega) (by omega)]; omega
        simp only [go_sem, h0, hlt, h2, hlt2, h3]
        repeat' refine And.intro ?_ ?_
        all_goals
          refine call_lend ?_
          simp only [go_sem]
          refine callN.eq (ok121 (xs.getD i default) (ys.getD i default)) (by simp only [go_sem]) ?_
          simp only [go_sem]
          by_cases h4 : xs.getD i default = ys.getD i default
          · simp only [go_sem, hw3, h4]
            refine again_intro (i + 1) ⟨by omega, fun j hj => ?_⟩ (by omega) ?_
            · by_cases hji : j < i
              · exact he j hji
              · have : j = i := by omega
                subst this
                exact h4
            · simp only [go_sem]
              try trivial
          · simp only [go_sem, h4]
            have : ¬ xs = ys := fun e => h4 (by rw [e])
            simp only [this, decide_false]
      · simp only [go_sem]
        have : i = xs.length := by omega
        subst this
        have : xs = ys := ext_getD hll he
        simp only [this, decide_true]
theorem ok75 (xs ys : List Rpl) : VCalls gz 75 [.lst false 14 (xs.map (Rpl.enc false)), .lst false 14 (ys.map (Rpl.enc false))] none (fun y _ => y = .lit (.bool (decide (xs = ys)))) := by
  refine VCalls.go (nt := 27) (keep := [0, 1, 4, 5, 10, 14, 26]) (muts := []) (mvs := []) [(6, .tree true (.take 0 (.take 1 (.take 2 (.take 3 (.take 4 (.take 5 (.take 6 (.take 7 (.all (.cons 8 (.take 9 .done) .nil)))))))))))] f75_at rfl (by kernel_rfl) rfl (by kernel_rfl) rfl (fun i h => by cases h) rfl ?_
  intro hok
  simp only [go_sem] at hok
  simp only [Tryz.f75, Func.code, Option.getD_some]
  simp only [go_sem]
  intro hm hm2
  first | refine branch_ndec (fun h => ?_) (fun h => ?_) | refine branch_dec (fun h => ?_) (fun h => ?_) | refine branch_nbool (fun h => ?_) (fun h => ?_) | refine branch_split (fun h => ?_) (fun h => ?_)
  rotate_left
  · simp only [go_sem]
    have : ¬ xs = ys := fun e => h (by rw [e])
    simp only [this, decide_false]
  · have hll : xs.length = ys.length := by omega
    simp only [go_sem]
    refine vm_loopK (α := Nat) (fun i => [(0, .lst false 14 (xs.map (Rpl.enc false))), (1, .lst false 14 (ys.map (Rpl.enc false))), (4, .lit (.bool false)), (5, .lit (.int .i64 i))]) (fun i => i ≤ xs.length ∧ ∀ j, j < i → xs.getD j default = ys.getD j default) (fun i => xs.length - i) 0 ?_ ⟨by omega, fun j hj => by omega⟩ (by kernel_rfl) (fun _ => rfl) ?_
    · simp only [go_sem]
      try trivial
    · rintro i ⟨hi, he⟩ hk
      simp only [go_sem]
      intro _
      first | refine branch_ndec (fun h2 => ?_) (fun h2 => ?_) | refine branch_dec (fun h2 => ?_) (fun h2 => ?_) | refine branch_nbool (fun h2 => ?_) (fun h2 => ?_) | refine branch_split (fun h2 => ?_) (fun h2 => ?_)
      · have hlt : i < xs.length := by omega
        have hlt2 : i < ys.length := by omega
        have h0 : (0 : Int) ≤ (i : Int) := by omega
        have h3 : (i : Int) < (ys.length : Int) := by omega
        have hw3 : IntKind.i64.wrap ((i : Int) + 1) = ((i + 1 : Nat) : Int) := by rw [wrap64 (by omega) (by omega)]; omega
        simp only [go_sem, h0, hlt, h2, hlt2, h3]
        repeat' refine And.intro ?_ ?_
        all_goals
          refine call_lend ?_
          simp only [go_sem]
          refine callN.eq (ok13 (xs.getD i default) (ys.getD i default)) (by simp only [go_sem]) ?_
          simp only [go_sem]
          by_cases h4 : xs.getD i default = ys.getD i default
          · simp only [go_sem, hw3, h4]
            refine again_intro (i + 1) ⟨by omega, fun j hj => ?_⟩ (by omega) ?_
            · by_cases hji : j < i
              · exact he j hji
              · have : j = i := by omega
                subst this
                exact h4
            · simp only [go_sem]
              try trivial
          · simp only [go_sem, h4]
            have : ¬ xs = ys := fun e => h4 (by rw [e])
            simp only [this, decide_false]
      · simp only [go_sem]
        have : i = xs.length := by omega
        subst this
        have : xs = ys := ext_getD hll he
        simp only [this, decide_true]
theorem ok18 (p q : Clu) : VCalls gz 18 [p.enc false, q.enc false] none (fun y _ => y = .lit (.bool (decide (p = q)))) := by
  refine VCalls.go (nt := 17) (keep := [0, 1, 2, 3, 4, 10, 16]) (muts := []) (mvs := []) [] f18_at rfl (by kernel_rfl) rfl (by kernel_rfl) rfl (fun i h => by cases h) rfl ?_
  intro hok
  simp only [go_sem] at hok
  simp only [Tryz.f18, Func.code, Option.getD_some]
  simp only [go_sem]
  refine call_lend ?_
  simp only [go_sem]
  refine callN.eq (ok75 p.reps q.reps) (by simp only [go_sem]) ?_
  simp only [go_sem]
  by_cases h1 : p.reps = q.reps
  rotate_left
  · have : ¬ p = q := fun e => h1 (by rw [e])
    simp only [go_sem, h1, this]
  simp only [go_sem, eq_true h1]
  refine call_lend ?_
  simp only [go_sem]
  refine callN.eq (ok76 p.net q.net) (by simp only [go_sem]) ?_
  simp only [go_sem]
  by_cases h2 : p.net = q.net
  rotate_left
  · have : ¬ p = q := fun e => h2 (by rw [e])
    simp only [go_sem, h2, this]
  simp only [go_sem, eq_true h2]
  have : p = q := by cases p; cases q; simp_all
  simp only [go_sem, eq_true this]
end Go.VS
