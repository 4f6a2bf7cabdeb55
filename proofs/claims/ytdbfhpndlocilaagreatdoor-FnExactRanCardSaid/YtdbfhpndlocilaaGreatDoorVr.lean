/- VS: functions by the machine. -/
import Derived.Test.YtdbfhpndlocilaaGreatDoorVq
import Derived.Test.YtdbfhpndlocilaaGreatDoorVj
import Derived.Test.YtdbfhpndlocilaaGreatDoorVf
import Derived.Test.YtdbfhpndlocilaaGreatDoorVn
set_option linter.unusedSimpArgs false
set_option linter.unusedVariables false
open Go.Proofs
set_option maxRecDepth 20000
namespace Go.VS
theorem f66_at : gz.P.funcs[66]? = some Tryz.f66 := by
  have h : Tryz.prog.funcs[66]? = some Tryz.f66 := by kernel_rfl
  exact h
theorem ok66 (r : Rpl) (hr : r.hold) : VCalls gz 66 [r.enc false] none (fun y _ => y = .ptr true (r.pty.enc true)) := by
  have hb2 := hr.2.1
  refine VCalls.go (nt := 30) (keep := [0, 1, 2, 3, 5, 11, 12, 13, 14]) (muts := []) (mvs := []) [(5, .tree false (.take 0 (.take 1 (.take 2 (.take 3 (.all (.cons 4 (.all (.cons 5 (.all (.cons 6 (.all (.cons 7 (.all (.cons 8 (.take 9 (.take 10 (.all (.cons 11 .done .nil)))) .nil)) .nil)) .nil)) .nil)) (.cons 5 (.all (.cons 4 (.all (.cons 6 (.all (.cons 7 (.all (.cons 8 (.take 9 (.take 10 (.all (.cons 11 .done .nil)))) .nil)) .nil)) .nil)) (.cons 6 (.all (.cons 4 (.all (.cons 7 (.all (.cons 8 (.take 9 (.take 10 (.all (.cons 11 .done .nil)))) .nil)) .nil)) (.cons 7 (.all (.cons 4 (.all (.cons 8 (.take 9 (.take 10 (.all (.cons 11 .done .nil)))) .nil)) .nil)) .nil))) .nil))) .nil))))))))] f66_at rfl (by kernel_rfl) rfl (by kernel_rfl) rfl (fun i h => by cases h) rfl ?_
  intro hok
  simp only [go_sem] at hok
  simp only [Tryz.f66, Func.code, Option.getD_some]
  simp only [go_sem]
  refine call_lend ?_
  simp only [go_sem]
  refine callN.eq (ok112 r hr) (by simp only [go_sem]) ?_
  simp only [go_sem]
  intro hm
  refine vm_loopK (α := Nat) (fun i => [(1, .ptr true (r.enc false)), (3, .ptr true (Pty.enc true ⟨r, (r.blocks.take i).map Blk.nmI, []⟩)), (11, .lst false 8 (r.blocks.map (Blk.enc false))), (12, .lit (.int .i64 r.blocks.length)), (13, .lit (.int .i64 i))]) (fun i => i ≤ r.blocks.length) (fun i => r.blocks.length - i) 0 ?_ (by omega) (by kernel_rfl) (fun _ => rfl) ?_
  · simp only [go_sem]
    try rfl
  · intro i hi hk
    simp only [go_sem]
    first | refine branch_ndec (fun h6 => ?_) (fun h6 => ?_) | refine branch_dec (fun h6 => ?_) (fun h6 => ?_) | refine branch_nbool (fun h6 => ?_) (fun h6 => ?_) | refine branch_split (fun h6 => ?_) (fun h6 => ?_)
    · have hlt : i < r.blocks.length := by omega
      have h0 : (0 : Int) ≤ (i : Int) := by omega
      have hw3 : IntKind.i64.wrap ((i : Int) + 1) = ((i + 1 : Nat) : Int) := by rw [wrap64 (by omega) (by omega)]; omega
      simp only [go_sem, h0, hlt, h6]
      repeat' refine And.intro ?_ ?_
      all_goals
        refine call_lend ?_
        simp only [go_sem]
        refine callN.eq (ok113 (r.blocks.getD i default)) (by simp only [go_sem]) ?_
        simp only [go_sem]
        have hlk : (r.blocks.take i).length = i := by rw [List.length_take]; omega
        refine ⟨by omega, ?_⟩
        rw [hw3]
        refine again_intro (i + 1) (by omega) (by omega) ?_
        simp only [go_sem]
        rw [take_succ_getD hlt, List.map_append, List.map_append, List.take_of_length_le (by simp)]
        rfl
    · have hie : i = r.blocks.length := by omega
      subst hie
      simp only [go_sem]
      simp only [Rpl.pty, List.take_length, and_self, List.map_nil]
end Go.VS
set_option linter.unusedSimpArgs false
set_option linter.unusedVariables false
open Go.Proofs
set_option maxRecDepth 20000
namespace Go.VS
theorem f65_at : gz.P.funcs[65]? = some Tryz.f65 := by
  have h : Tryz.prog.funcs[65]? = some Tryz.f65 := by kernel_rfl
  exact h
theorem Rpl.okI_hd {r : Rpl} (h : r.hd = false) : r.okI = false := by simp only [Rpl.okI, h, Bool.false_and]
theorem Rpl.okI_hd2 {r : Rpl} (h : r.hd2 = false) : r.okI = false := by simp only [Rpl.okI, h, Bool.false_and, Bool.and_false]
theorem Rpl.pty_len (r : Rpl) : r.pty.names.length = r.pty.r.blocks.length := by simp [Rpl.pty]
set_option maxHeartbeats 4000000 in
theorem ok65 (r : Rpl) (hr : r.hold) : VCalls gz 65 [r.enc false] none (fun y _ => y = .lit (.bool r.okI)) := by
  refine VCalls.go (nt := 104) (keep := [0, 1, 2, 3, 40, 64, 91]) (muts := []) (mvs := []) [] f65_at rfl (by kernel_rfl) rfl (by kernel_rfl) rfl (fun i h => by cases h) rfl ?_
  intro hok
  simp only [go_sem] at hok
  simp only [Tryz.f65, Func.code, Option.getD_some]
  simp only [go_sem]
  refine call_lend ?_
  simp only [go_sem]
  refine callN.eq (ok100 r.n) (by simp only [go_sem]) ?_
  simp only [go_sem]
  cases h : srv r.n
  · simp only [go_sem, qrm_neg, h, Rpl.okI_hd (r := r) (by simp only [Rpl.hd, h, Bool.false_and])]
  have hn := srv_iff.1 h
  have hw : IntKind.i64.wrap (r.n - 1) = r.n - 1 := wrap64 (by omega) (by omega)
  simp only [go_sem, qrm_neg, h, hw]
  refine call_lend ?_
  simp only [go_sem]
  refine callN.eq (ok50 r.id 0 (r.n - 1)) (by simp only [go_sem]) ?_
  simp only [go_sem]
  by_cases h2 : 0 ≤ r.id ∧ r.id ≤ r.n - 1
  rotate_left
  · simp only [go_sem, eq_false h2, Rpl.okI_hd (r := r) (by simp only [Rpl.hd, eq_false h2, decide_false, Bool.false_and, Bool.and_false])]
  simp only [go_sem, eq_true h2]
  refine call_lend ?_
  simp only [go_sem]
  refine callN.eq (ok101 r.view) (by simp only [go_sem]) ?_
  simp only [go_sem]
  by_cases h3 : 1 ≤ r.view ∧ r.view ≤ 100000
  rotate_left
  · simp only [go_sem, eq_false h3, Rpl.okI_hd (r := r) (by simp only [Rpl.hd, eq_false h3, decide_false, Bool.false_and, Bool.and_false])]
  simp only [go_sem, eq_true h3]
  refine call_lend ?_
  simp only [go_sem]
  refine callN.eq (ok50 r.voted 0 100000) (by simp only [go_sem]) ?_
  simp only [go_sem]
  by_cases h4 : 0 ≤ r.voted ∧ r.voted ≤ 100000
  rotate_left
  · simp only [go_sem, eq_false h4, Rpl.okI_hd (r := r) (by simp only [Rpl.hd, eq_false h4, decide_false, Bool.false_and, Bool.and_false])]
  simp only [go_sem, eq_true h4]
  refine call_lend ?_
  simp only [go_sem]
  refine callN.eq (ok50 r.locked 0 100000) (by simp only [go_sem]) ?_
  simp only [go_sem]
  by_cases h5 : 0 ≤ r.locked ∧ r.locked ≤ 100000
  rotate_left
  · simp only [go_sem, eq_false h5, Rpl.okI_hd (r := r) (by simp only [Rpl.hd, eq_false h5, decide_false, Bool.false_and, Bool.and_false])]
  simp only [go_sem, eq_true h5]
  refine call_lend ?_
  simp only [go_sem]
  refine callN.eq (ok50 r.proposed 0 100000) (by simp only [go_sem]) ?_
  simp only [go_sem]
  by_cases h6 : 0 ≤ r.proposed ∧ r.proposed ≤ 100000
  rotate_left
  · simp only [go_sem, eq_false h6, Rpl.okI_hd (r := r) (by simp only [Rpl.hd, eq_false h6, decide_false, Bool.false_and, Bool.and_false])]
  simp only [go_sem, eq_true h6]
  refine call_lend ?_
  simp only [go_sem]
  refine callN.eq (ok102 r.high r.n) (by simp only [go_sem]) ?_
  simp only [go_sem]
  cases h7 : r.high.ok r.n
  · simp only [go_sem, Rpl.okI_hd2 (r := r) (by simp only [Rpl.hd2, h7, Bool.false_and])]
  simp only [go_sem]
  intro hm1
  by_cases h8 : 60 < (r.blocks.length : Int)
  · simp only [go_sem, eq_true h8, Rpl.okI_hd2 (r := r) (by simp only [Rpl.hd2, decide_eq_false (show ¬ r.blocks.length ≤ 60 by omega), Bool.false_and, Bool.and_false])]
  simp only [go_sem, h8]
  intro hm2
  by_cases h9 : 60 < (r.votes.length : Int)
  · simp only [go_sem, eq_true h9, Rpl.okI_hd2 (r := r) (by simp only [Rpl.hd2, decide_eq_false (show ¬ r.votes.length ≤ 60 by omega), Bool.false_and, Bool.and_false])]
  simp only [go_sem, h9]
  intro hm3
  by_cases h10 : 30 < (r.news.length : Int)
  · simp only [go_sem, eq_true h10, Rpl.okI_hd2 (r := r) (by simp only [Rpl.hd2, decide_eq_false (show ¬ r.news.length ≤ 30 by omega), Bool.false_and, Bool.and_false])]
  simp only [go_sem, h10]
  have hhd : r.hd = true := by simp only [Rpl.hd, h, decide_eq_true h2, decide_eq_true h3, decide_eq_true h4, decide_eq_true h5, decide_eq_true h6, Bool.and_self]
  have hhd2 : r.hd2 = true := by simp only [Rpl.hd2, h7, decide_eq_true (show r.blocks.length ≤ 60 by omega), decide_eq_true (show r.votes.length ≤ 60 by omega), decide_eq_true (show r.news.length ≤ 30 by omega), Bool.and_self]
  refine call_lend ?_
  simp only [go_sem]
  refine callN.eq (ok66 r hr) (by simp only [go_sem]) ?_
  simp only [go_sem]
  refine call_lend ?_
  simp only [go_sem]
  refine callN.eq (ok103 r.pty (Rpl.pty_len r)) (by simp only [go_sem]) ?_
  simp only [go_sem]
  have hfin : r.okI = ((r.pty.bkOk && ((r.high.one || decide (0 ≤ r.pty.has r.high.name r.high.view)) && r.pty.dnOk)) && (r.votes.all (fun v => v.ok r.n) && r.news.all (nwOk r.n))) := by simp only [Rpl.okI, hhd, hhd2, Bool.true_and]
  obtain ⟨V, hV⟩ : ∃ V, V = r.okI := ⟨_, rfl⟩
  rw [← hV] at hfin ⊢
  cases hb : r.pty.bkOk
  · simp only [go_sem]
    rw [hfin, hb, Bool.false_and, Bool.false_and]
  simp only [go_sem]
  refine call_lend ?_
  simp only [go_sem]
  refine callN.eq (ok104 r.high) (by simp only [go_sem]) ?_
  simp only [go_sem]
  have e1 : (!r.votes.any (fun v => !v.ok r.n)) = r.votes.all (fun v => v.ok r.n) := by rw [List.all_eq_not_any_not]
  have e2 : (!r.news.any (fun x => !nwOk r.n x)) = r.news.all (nwOk r.n) := by rw [List.all_eq_not_any_not]
  cases ho : r.high.one
  · simp only [go_sem]
    refine call_lend ?_
    simp only [go_sem]
    refine callN.eq (ok105 r.pty (Rpl.pty_len r) r.high.name r.high.view) (by simp only [go_sem]) ?_
    simp only [go_sem]
    by_cases hh : 0 ≤ r.pty.has r.high.name r.high.view
    rotate_left
    · have hh2 : r.pty.has r.high.name r.high.view < 0 := by omega
      simp only [go_sem, eq_true hh2]
      rw [hfin, hb, ho, decide_eq_false hh]
      rfl
    have hh2 : ¬ r.pty.has r.high.name r.high.view < 0 := by omega
    have hA : (r.high.one || decide (0 ≤ r.pty.has r.high.name r.high.view)) = true := by rw [decide_eq_true hh, Bool.or_true]
    simp only [go_sem, hh2]
    refine call_lend ?_
    simp only [go_sem]
    refine callN.eq (ok106 r.pty (Rpl.pty_len r)) (by simp only [go_sem]) ?_
    simp only [go_sem]
    cases hd : r.pty.dnOk
    · simp only [go_sem]
      rw [hfin, hb, hd, Bool.and_false, Bool.and_false]
      rfl
    simp only [go_sem]
    refine call_lend ?_
    simp only [go_sem]
    refine callN.eq (ok107 r.votes 108 [_] (fun v => !v.ok r.n) rfl rfl (fun x _ => ok108 x r)) (by simp only [go_sem]) ?_
    simp only [go_sem]
    cases hv : r.votes.any (fun v => !v.ok r.n)
    rotate_left
    · simp only [go_sem]
      rw [hfin, ← e1, hv, Bool.not_true, Bool.false_and, Bool.and_false]
    simp only [go_sem]
    refine call_lend ?_
    simp only [go_sem]
    refine callN.eq (ok110 r.news 111 [_] (fun x => !nwOk r.n x) rfl rfl (fun x _ => ok111 x r h)) (by simp only [go_sem]) ?_
    simp only [go_sem]
    rw [hfin, ← e1, hv, e2, hb, hA, hd]
    simp
  · have hA : (r.high.one || decide (0 ≤ r.pty.has r.high.name r.high.view)) = true := by rw [ho, Bool.true_or]
    simp only [go_sem]
    refine call_lend ?_
    simp only [go_sem]
    refine callN.eq (ok106 r.pty (Rpl.pty_len r)) (by simp only [go_sem]) ?_
    simp only [go_sem]
    cases hd : r.pty.dnOk
    · simp only [go_sem]
      rw [hfin, hb, hd, Bool.and_false, Bool.and_false]
      rfl
    simp only [go_sem]
    refine call_lend ?_
    simp only [go_sem]
    refine callN.eq (ok107 r.votes 108 [_] (fun v => !v.ok r.n) rfl rfl (fun x _ => ok108 x r)) (by simp only [go_sem]) ?_
    simp only [go_sem]
    cases hv : r.votes.any (fun v => !v.ok r.n)
    rotate_left
    · simp only [go_sem]
      rw [hfin, ← e1, hv, Bool.not_true, Bool.false_and, Bool.and_false]
    simp only [go_sem]
    refine call_lend ?_
    simp only [go_sem]
    refine callN.eq (ok110 r.news 111 [_] (fun x => !nwOk r.n x) rfl rfl (fun x _ => ok111 x r h)) (by simp only [go_sem]) ?_
    simp only [go_sem]
    rw [hfin, ← e1, hv, e2, hb, hA, hd]
    simp
end Go.VS
set_option linter.unusedSimpArgs false
set_option linter.unusedVariables false
open Go.Proofs
set_option maxRecDepth 20000
namespace Go.VS
theorem Rpl.hold_of {r : Rpl} (h : r.sz ≤ 1048576) : r.hold := by
  have hr2 : r.high.sz + szL Blk.sz r.blocks + r.votes.length + r.news.length + r.done.length ≤ 1048576 := h
  have hl : r.blocks.length ≤ szL Blk.sz r.blocks := by
    have : szL Blk.sz r.blocks = r.blocks.length + (r.blocks.map Blk.sz).sum := rfl
    omega
  refine ⟨by omega, by omega, fun i hi => ?_, by omega, by omega, by omega⟩
  have := getD_sz (f := Blk.sz) hi
  omega
end Go.VS
set_option linter.unusedSimpArgs false
set_option linter.unusedVariables false
open Go.Proofs
set_option maxRecDepth 20000
namespace Go.VS
theorem modify_strB {i : Nat} {xs : List ByteArray} {v : ByteArray} : (xs.map strA).modify i (putF [] (.lit (.string v))) = (xs.set i v).map strA := modify_enc (f := strA) rfl
attribute [go_sem] modify_strB
theorem f154_at : gz.P.funcs[154]? = some Tryz.f154 := by
  have h : Tryz.prog.funcs[154]? = some Tryz.f154 := by kernel_rfl
  exact h
theorem f118_at : gz.P.funcs[118]? = some Tryz.f118 := by
  have h : Tryz.prog.funcs[118]? = some Tryz.f118 := by kernel_rfl
  exact h
def mtB (k : Int) : ByteArray := if k ≤ 0 then ⟨#[109, 48]⟩ else ⟨#[109]⟩ ++ itoaB k
theorem ok154 (n : Int) : VCalls gz 154 [.lit (.int .i64 n)] none (fun y _ => y = .lit (.string (mtB n))) := by
  refine VCalls.go (nt := 20) (keep := [0, 2, 3, 5, 7]) (muts := []) (mvs := []) [] f154_at rfl (by kernel_rfl) rfl (by kernel_rfl) rfl (fun i h => by cases h) rfl ?_
  intro hok
  simp only [go_sem] at hok
  simp only [Tryz.f154, Func.code, Option.getD_some]
  simp only [go_sem]
  first | refine branch_ndec (fun h1 => ?_) (fun h1 => ?_) | refine branch_dec (fun h1 => ?_) (fun h1 => ?_) | refine branch_nbool (fun h1 => ?_) (fun h1 => ?_) | refine branch_split (fun h1 => ?_) (fun h1 => ?_)
  · have e : mtB n = ⟨#[109, 48]⟩ := if_pos h1
    simp only [go_sem, e]
    try trivial
  · have e : mtB n = ⟨#[109]⟩ ++ itoaB n := if_neg h1
    simp only [go_sem]
    refine vm_loopK (α := Int × ByteArray) (fun q => [(0, .lit (.int .i64 q.1)), (3, .lit (.string q.2)), (2, .lit (.string ⟨#[]⟩))]) (fun q => WInv n q.1 q.2 ∧ (q.2 = ByteArray.empty → q.1 = n)) (fun q => q.1.natAbs) (n, ByteArray.empty) ?_ ⟨⟨fun h => h, fun h => by omega, Nat.le_refl _, .inl ⟨rfl, rfl⟩⟩, fun _ => rfl⟩ (by kernel_rfl) (fun _ => rfl) ?_
    · simp only [go_sem]
      try trivial
    · rintro ⟨m, s⟩ ⟨hi, he⟩ hk
      simp only at hi he
      have hm0 : 0 ≤ m := hi.1 (by omega)
      have hs := WInv.size hi hok
      have hm1 := hi.2.2.1
      simp only [go_sem]
      first | refine branch_ndec (fun h2 => ?_) (fun h2 => ?_) | refine branch_dec (fun h2 => ?_) (fun h2 => ?_) | refine branch_nbool (fun h2 => ?_) (fun h2 => ?_) | refine branch_split (fun h2 => ?_) (fun h2 => ?_)
      · have hb := digit_byte (m := m) (k := m.tmod 10) (by rw [if_neg]; have := tmod_mod hm0 (show (0 : Int) < 10 by omega); omega)
        have hw : IntKind.i64.wrap (m.tdiv 10) = m.tdiv 10 := by
          have ht : (m.tdiv 10).natAbs = m.natAbs / 10 := by rw [Int.natAbs_tdiv]; rfl
          exact wrap64 (by omega) (by omega)
        simp only [go_sem, hb, hw]
        have h0 := hi.step (.inr (by omega)) _ rfl (str_cons (UInt8.ofNat (48 + m.natAbs % 10)) s)
        refine ⟨by show 1 + s.size ≤ 9223372036854775807
                   omega, again_intro (m.tdiv 10, (⟨[UInt8.ofNat (48 + m.natAbs % 10)].toArray⟩ : ByteArray) ++ s) ⟨h0, fun hh => ?_⟩ ?_ ?_⟩
        · have := congrArg ByteArray.size hh
          rw [ByteArray.size_append] at this
          have hz : (⟨[UInt8.ofNat (48 + m.natAbs % 10)].toArray⟩ : ByteArray).size = 1 := rfl
          rw [hz] at this
          simp at this
        · have ht : (m.tdiv 10).natAbs = m.natAbs / 10 := by rw [Int.natAbs_tdiv]; rfl
          simp only
          omega
        · simp only [go_sem]
          try trivial
      · have hm : m = 0 := by omega
        subst hm
        have hne : s ≠ ByteArray.empty := fun hh => by have := he hh; omega
        have hd := hi.done hne
        have e2 : s = itoaB n := by
          apply bext
          have e3 : n.toNat = n.natAbs := by omega
          unfold itoaB Lib.itoa
          rw [if_neg (by omega), e3, hd]
        simp only [go_sem, e]
        rw [e2]
        exact ⟨by have := itoaB_size n hok
                  show 1 + _ ≤ 9223372036854775807
                  omega, rfl⟩
def mkL {α : Type} (f : α → Int → α × Int) : List α → Int → List α × Int
  | [], k => ([], k)
  | x :: xs, k => ((f x k).1 :: (mkL f xs (f x k).2).1, (mkL f xs (f x k).2).2)
def mkN {α : Type} (f : α → Int → α × Int) (xs : List α) (k : Int) (i : Nat) : Int := (mkL f (xs.take i) k).2
theorem mkL_length {α : Type} (f : α → Int → α × Int) : ∀ (xs : List α) (k : Int), (mkL f xs k).1.length = xs.length
  | [], k => rfl
  | x :: xs, k => by simp only [mkL, List.length_cons, mkL_length f xs]
theorem mkN_zero {α : Type} (f : α → Int → α × Int) (xs : List α) (k : Int) : mkN f xs k 0 = k := rfl
theorem mkN_all {α : Type} (f : α → Int → α × Int) (xs : List α) (k : Int) : mkN f xs k xs.length = (mkL f xs k).2 := by simp [mkN]
theorem mkN_succ {α : Type} [Inhabited α] (f : α → Int → α × Int) : ∀ (xs : List α) (k : Int) (i : Nat), i < xs.length → mkN f xs k (i + 1) = (f (xs.getD i default) (mkN f xs k i)).2 ∧ (mkL f xs k).1.getD i default = (f (xs.getD i default) (mkN f xs k i)).1
  | [], k, i, h => by simp at h
  | x :: xs, k, 0, h => by simp [mkN, mkL]
  | x :: xs, k, i + 1, h => by
    have := mkN_succ f xs (f x k).2 i (by simpa using h)
    simpa [mkN, mkL] using this
def tot {α : Type} (w : α → Nat) (xs : List α) : Nat := (xs.map w).sum
def mkC {α : Type} (f : α → Int → α × Int) (w : α → Nat) : Prop := ∀ x k, (f x k).2 = k + w x
theorem mkN_add {α : Type} (f : α → Int → α × Int) {w : α → Nat} (h : mkC f w) (xs : List α) (k : Int) (i : Nat) : mkN f xs k i = k + ((xs.take i).map w).sum := by
  unfold mkN
  generalize xs.take i = ys
  induction ys generalizing k with
  | nil => simp [mkL]
  | cons y ys ih =>
    simp only [mkL, ih, h y k, List.map_cons, List.sum_cons]
    omega
theorem mkN_rng {α : Type} (f : α → Int → α × Int) {w : α → Nat} (h : mkC f w) (xs : List α) (k : Int) (i : Nat) : k ≤ mkN f xs k i ∧ mkN f xs k i ≤ k + (tot w xs : Nat) := by
  unfold tot
  rw [mkN_add f h]
  have : (xs.map w).sum = ((xs.take i).map w).sum + ((xs.drop i).map w).sum := by
    rw [← List.sum_append, ← List.map_append, List.take_append_drop]
  omega
def strM (s : ByteArray) (k : Int) : ByteArray × Int := (mtB k, k + 1)
theorem strM_c : mkC strM (fun _ => 1) := fun x k => rfl
theorem ok118 (xs : List ByteArray) (k : Int) (h1 : 0 ≤ k) (h2 : k + (tot (fun _ => 1) xs : Nat) ≤ 4611686018427387904) :
    VMut gz 118 [.lst true 1 (xs.map strA), .lit (.int .i64 k)] 0 (fun y x' => y = .lit (.int .i64 (mkL strM xs k).2) ∧ x' = .lst true 1 ((mkL strM xs k).1.map strA)) := by
  refine VMut.go (nt := 20) (keep := [0, 1, 4, 5, 9]) (i := 0) (mvs := []) [] f118_at rfl (by kernel_rfl) rfl (by kernel_rfl) rfl rfl rfl ?_
  intro hok
  simp only [go_sem] at hok
  simp only [Tryz.f118, Func.code, Option.getD_some]
  simp only [go_sem]
  have hM := mkL_length strM xs k
  refine vm_loopK (α := Nat) (fun i => [(0, .lst true 1 ((midL (mkL strM xs k).1 xs i).map strA)), (1, .lit (.int .i64 (mkN strM xs k i))), (4, .lit (.int .i64 0)), (5, .lit (.int .i64 i))]) (fun i => i ≤ xs.length) (fun i => xs.length - i) 0 ?_ (by omega) (by kernel_rfl) (fun _ => rfl) ?_
  · simp only [go_sem, midL_zero, mkN_zero]
    try trivial
  · intro i hi hk
    have hml : (midL (mkL strM xs k).1 xs i).length = xs.length := (midL_length (by omega) hM.symm).trans hM
    simp only [go_sem, hml]
    intro _
    first | refine branch_ndec (fun h3 => ?_) (fun h3 => ?_) | refine branch_dec (fun h3 => ?_) (fun h3 => ?_) | refine branch_nbool (fun h3 => ?_) (fun h3 => ?_) | refine branch_split (fun h3 => ?_) (fun h3 => ?_)
    · have hlt : i < xs.length := by omega
      have h0 : (0 : Int) ≤ (i : Int) := by omega
      have hs := mkN_succ strM xs k i hlt
      have hr := mkN_rng strM strM_c xs k i
      have hr2 := mkN_rng strM strM_c xs k (i + 1)
      have hw3 : IntKind.i64.wrap ((i : Int) + 1) = ((i + 1 : Nat) : Int) := by rw [wrap64 (by omega) (by omega)]; omega
      have hset : (midL (mkL strM xs k).1 xs i).set i (mtB (mkN strM xs k i)) = midL (mkL strM xs k).1 xs (i + 1) := by
        rw [← modify_set]
        exact midL_mod (by omega) hM.symm hs.2.symm
      have hw4 : IntKind.i64.wrap (mkN strM xs k i + 1) = mkN strM xs k (i + 1) := by rw [wrap64 (by omega) (by omega)]; exact hs.1.symm
      simp only [go_sem, h0, h3, hml]
      refine call_lend ?_
      simp only [go_sem]
      refine callN.eq (ok154 (mkN strM xs k i)) (by simp only [go_sem]) ?_
      simp only [go_sem]
      simp only [go_sem, h0, h3, hml, hlt, hset, hw3, hw4]
      refine again_intro (i + 1) (by omega) (by omega) ?_
      simp only [go_sem]
      try trivial
    · simp only [go_sem]
      have : i = xs.length := by omega
      subst this
      have e : midL (mkL strM xs k).1 xs xs.length = (mkL strM xs k).1 := by
        have := midL_all (mkL strM xs k).1 hM.symm
        rwa [hM] at this
      rw [mkN_all, e]
      simp only [go_sem]
      try trivial
theorem modify_flds {α : Type} {f : α → AVal} {xs : List α} {i : Nat} {g : AVal → AVal} (h : α → α) (e : ∀ x, g (f x) = f (h x)) : (xs.map f).modify i g = (xs.modify i h).map f := by
  apply List.ext_getElem?
  intro j
  simp only [List.getElem?_modify, List.getElem?_map]
  cases xs[j]? with
  | none => rfl
  | some x => by_cases hj : i = j <;> simp [hj, e]
theorem modify_two {α : Type} {xs : List α} {i : Nat} {g h : α → α} : (xs.modify i g).modify i h = xs.modify i (fun x => h (g x)) := by
  apply List.ext_getElem?
  intro j
  simp only [List.getElem?_modify]
  cases xs[j]? with
  | none => rfl
  | some x => by_cases hj : i = j <;> simp [hj]
attribute [go_sem] modify_two List.length_modify
end Go.VS
set_option linter.unusedSimpArgs false
set_option linter.unusedVariables false
open Go.Proofs
set_option maxRecDepth 20000
namespace Go.VS
theorem f31_at : gz.P.funcs[31]? = some Tryz.f31 := by
  have h : Tryz.prog.funcs[31]? = some Tryz.f31 := by kernel_rfl
  exact h
theorem f33_at : gz.P.funcs[33]? = some Tryz.f33 := by
  have h : Tryz.prog.funcs[33]? = some Tryz.f33 := by kernel_rfl
  exact h
theorem f74_at : gz.P.funcs[74]? = some Tryz.f74 := by
  have h : Tryz.prog.funcs[74]? = some Tryz.f74 := by kernel_rfl
  exact h
theorem f75_at : gz.P.funcs[75]? = some Tryz.f75 := by
  have h : Tryz.prog.funcs[75]? = some Tryz.f75 := by kernel_rfl
  exact h
theorem modify_intB {i : Nat} {xs : List Int} {v : Int} : (xs.map intA).modify i (putF [] (.lit (.int .i64 v))) = (xs.set i v).map intA := modify_enc (f := intA) rfl
attribute [go_sem] modify_intB
def intM (x : Int) (k : Int) : Int × Int := (k, k + 1)
theorem intM_c : mkC intM (fun _ => 1) := fun x k => rfl
theorem ok31 (xs : List Int) (k : Int) (h1 : 0 ≤ k) (h2 : k + (tot (fun _ => 1) xs : Nat) ≤ 4611686018427387904) :
    VMut gz 31 [.lst true 1 (xs.map intA), .lit (.int .i64 k)] 0 (fun y x' => y = .lit (.int .i64 (mkL intM xs k).2) ∧ x' = .lst true 1 ((mkL intM xs k).1.map intA)) := by
  refine VMut.go (nt := 19) (keep := [0, 1, 4, 5, 9]) (i := 0) (mvs := []) [] f31_at rfl (by kernel_rfl) rfl (by kernel_rfl) rfl rfl rfl ?_
  intro hok
  simp only [go_sem] at hok
  simp only [Tryz.f31, Func.code, Option.getD_some]
  simp only [go_sem]
  have hM := mkL_length intM xs k
  refine vm_loopK (α := Nat) (fun i => [(0, .lst true 1 ((midL (mkL intM xs k).1 xs i).map intA)), (1, .lit (.int .i64 (mkN intM xs k i))), (4, .lit (.int .i64 0)), (5, .lit (.int .i64 i))]) (fun i => i ≤ xs.length) (fun i => xs.length - i) 0 ?_ (by omega) (by kernel_rfl) (fun _ => rfl) ?_
  · simp only [go_sem, midL_zero, mkN_zero]
    try trivial
  · intro i hi hk
    have hml : (midL (mkL intM xs k).1 xs i).length = xs.length := (midL_length (by omega) hM.symm).trans hM
    simp only [go_sem, hml]
    intro _
    first | refine branch_ndec (fun h3 => ?_) (fun h3 => ?_) | refine branch_dec (fun h3 => ?_) (fun h3 => ?_) | refine branch_nbool (fun h3 => ?_) (fun h3 => ?_) | refine branch_split (fun h3 => ?_) (fun h3 => ?_)
    · have hlt : i < xs.length := by omega
      have h0 : (0 : Int) ≤ (i : Int) := by omega
      have hs := mkN_succ intM xs k i hlt
      have hr := mkN_rng intM intM_c xs k i
      have hr2 := mkN_rng intM intM_c xs k (i + 1)
      have hw3 : IntKind.i64.wrap ((i : Int) + 1) = ((i + 1 : Nat) : Int) := by rw [wrap64 (by omega) (by omega)]; omega
      have hset : (midL (mkL intM xs k).1 xs i).set i (mkN intM xs k i) = midL (mkL intM xs k).1 xs (i + 1) := by
        rw [← modify_set]
        exact midL_mod (by omega) hM.symm hs.2.symm
      have hw4 : IntKind.i64.wrap (mkN intM xs k i + 1) = mkN intM xs k (i + 1) := by rw [wrap64 (by omega) (by omega)]; exact hs.1.symm
      simp only [go_sem, h0, h3, hml, hlt, hset, hw3, hw4]
      refine again_intro (i + 1) (by omega) (by omega) ?_
      simp only [go_sem]
      try trivial
    · simp only [go_sem]
      have : i = xs.length := by omega
      subst this
      have e : midL (mkL intM xs k).1 xs xs.length = (mkL intM xs k).1 := by
        have := midL_all (mkL intM xs k).1 hM.symm
        rwa [hM] at this
      rw [mkN_all, e]
      simp only [go_sem]
      try trivial
theorem ok33 (xs : List Int) (k : Int) (h1 : 0 ≤ k) (h2 : k + (tot (fun _ => 1) xs : Nat) ≤ 4611686018427387904) :
    VCalls gz 33 [.lst false 1 ((mkL intM xs k).1.map intA), .lit (.int .i64 k)] none (fun y _ => y = .lit (.int .i64 (mkL intM xs k).2)) := by
  refine VCalls.go (nt := 21) (keep := [0, 1, 4, 5, 9, 17]) (muts := []) (mvs := []) [] f33_at rfl (by kernel_rfl) rfl (by kernel_rfl) rfl (fun i h => by cases h) rfl ?_
  intro hok
  simp only [go_sem] at hok
  simp only [Tryz.f33, Func.code, Option.getD_some]
  simp only [go_sem]
  have hM := mkL_length intM xs k
  refine vm_loopK (α := Nat) (fun i => [(0, .lst false 1 ((mkL intM xs k).1.map intA)), (1, .lit (.int .i64 (mkN intM xs k i))), (4, .lit (.int .i64 0)), (5, .lit (.int .i64 i))]) (fun i => i ≤ xs.length) (fun i => xs.length - i) 0 ?_ (by omega) (by kernel_rfl) (fun _ => rfl) ?_
  · simp only [go_sem, mkN_zero]
    try trivial
  · intro i hi hk
    simp only [go_sem, hM]
    intro _
    first | refine branch_ndec (fun h3 => ?_) (fun h3 => ?_) | refine branch_dec (fun h3 => ?_) (fun h3 => ?_) | refine branch_nbool (fun h3 => ?_) (fun h3 => ?_) | refine branch_split (fun h3 => ?_) (fun h3 => ?_)
    · have hlt : i < xs.length := by omega
      have h0 : (0 : Int) ≤ (i : Int) := by omega
      have hs := mkN_succ intM xs k i hlt
      have hr := mkN_rng intM intM_c xs k i
      have hr2 := mkN_rng intM intM_c xs k (i + 1)
      have hw3 : IntKind.i64.wrap ((i : Int) + 1) = ((i + 1 : Nat) : Int) := by rw [wrap64 (by omega) (by omega)]; omega
      have hw4 : IntKind.i64.wrap (mkN intM xs k i + 1) = mkN intM xs k (i + 1) := by rw [wrap64 (by omega) (by omega)]; exact hs.1.symm
      have hv : (mkL intM xs k).1.getD i default = mkN intM xs k i := hs.2
      simp only [go_sem, h0, h3, hM, hlt, hv, hw3, hw4]
      repeat' refine And.intro ?_ ?_
      all_goals
        refine again_intro (i + 1) (by omega) (by omega) ?_
        simp only [go_sem]
        try trivial
    · simp only [go_sem]
      have : i = xs.length := by omega
      subst this
      rw [mkN_all]
theorem Vot.put0 {xs : List Vot} {i : Nat} {a : Int} : (xs.map Vot.enc).modify i (putF [0] (.lit (.int .i64 a))) = (xs.modify i (fun p => { p with view := a })).map Vot.enc := modify_flds _ fun x => rfl
theorem Vot.put1 {xs : List Vot} {i : Nat} {a : Int} : (xs.map Vot.enc).modify i (putF [1] (.lit (.int .i64 a))) = (xs.modify i (fun p => { p with name := a })).map Vot.enc := modify_flds _ fun x => rfl
theorem Vot.put2 {xs : List Vot} {i : Nat} {a : Int} : (xs.map Vot.enc).modify i (putF [2] (.lit (.int .i64 a))) = (xs.modify i (fun p => { p with bY := a })).map Vot.enc := modify_flds _ fun x => rfl
theorem Vot.put3 {xs : List Vot} {i : Nat} {a : Int} : (xs.map Vot.enc).modify i (putF [3] (.lit (.int .i64 a))) = (xs.modify i (fun p => { p with tag := a })).map Vot.enc := modify_flds _ fun x => rfl
theorem Nws.put0 {xs : List Nws} {i : Nat} {a : Int} : (xs.map Nws.enc).modify i (putF [0] (.lit (.int .i64 a))) = (xs.modify i (fun p => { p with view := a })).map Nws.enc := modify_flds _ fun x => rfl
theorem Nws.put1 {xs : List Nws} {i : Nat} {a : Int} : (xs.map Nws.enc).modify i (putF [1] (.lit (.int .i64 a))) = (xs.modify i (fun p => { p with src := a })).map Nws.enc := modify_flds _ fun x => rfl
attribute [go_sem] Vot.put0 Vot.put1 Vot.put2 Vot.put3 Nws.put0 Nws.put1
def Vot.mk4 (v : Vot) (k : Int) : Vot × Int := (⟨k, k + 1, k + 2, k + 3⟩, k + 4)
theorem Vot.mk4_c : mkC Vot.mk4 (fun _ => 4) := fun x k => rfl
def Nws.mk2 (v : Nws) (k : Int) : Nws × Int := (⟨k, k + 1⟩, k + 2)
theorem Nws.mk2_c : mkC Nws.mk2 (fun _ => 2) := fun x k => rfl
theorem ok74 (xs : List Vot) (k : Int) (h1 : 0 ≤ k) (h2 : k + (tot (fun _ => 4) xs : Nat) ≤ 4611686018427387904) :
    VMut gz 74 [.lst true 4 (xs.map Vot.enc), .lit (.int .i64 k)] 0 (fun y x' => y = .lit (.int .i64 (mkL Vot.mk4 xs k).2) ∧ x' = .lst true 4 ((mkL Vot.mk4 xs k).1.map Vot.enc)) := by
  refine VMut.go (nt := 41) (keep := [0, 1, 4, 5, 9]) (i := 0) (mvs := []) [] f74_at rfl (by kernel_rfl) rfl (by kernel_rfl) rfl rfl rfl ?_
  intro hok
  simp only [go_sem] at hok
  simp only [Tryz.f74, Func.code, Option.getD_some]
  simp only [go_sem]
  have hM := mkL_length Vot.mk4 xs k
  refine vm_loopK (α := Nat) (fun i => [(0, .lst true 4 ((midL (mkL Vot.mk4 xs k).1 xs i).map Vot.enc)), (1, .lit (.int .i64 (mkN Vot.mk4 xs k i))), (4, .lit (.int .i64 0)), (5, .lit (.int .i64 i))]) (fun i => i ≤ xs.length) (fun i => xs.length - i) 0 ?_ (by omega) (by kernel_rfl) (fun _ => rfl) ?_
  · simp only [go_sem, midL_zero, mkN_zero]
    try trivial
  · intro i hi hk
    have hml : (midL (mkL Vot.mk4 xs k).1 xs i).length = xs.length := (midL_length (by omega) hM.symm).trans hM
    simp only [go_sem, hml]
    intro _
    first | refine branch_ndec (fun h3 => ?_) (fun h3 => ?_) | refine branch_dec (fun h3 => ?_) (fun h3 => ?_) | refine branch_nbool (fun h3 => ?_) (fun h3 => ?_) | refine branch_split (fun h3 => ?_) (fun h3 => ?_)
    · have hlt : i < xs.length := by omega
      have h0 : (0 : Int) ≤ (i : Int) := by omega
      have hs := mkN_succ Vot.mk4 xs k i hlt
      have hr := mkN_rng Vot.mk4 Vot.mk4_c xs k i
      have hr2 := mkN_rng Vot.mk4 Vot.mk4_c xs k (i + 1)
      have hw3 : IntKind.i64.wrap ((i : Int) + 1) = ((i + 1 : Nat) : Int) := by rw [wrap64 (by omega) (by omega)]; omega
      have hset : (midL (mkL Vot.mk4 xs k).1 xs i).modify i (fun x => ⟨mkN Vot.mk4 xs k i, mkN Vot.mk4 xs k i + 1, mkN Vot.mk4 xs k i + 2, mkN Vot.mk4 xs k i + 3⟩) = midL (mkL Vot.mk4 xs k).1 xs (i + 1) := midL_mod (by omega) hM.symm hs.2.symm
      rw [show mkN Vot.mk4 xs k i = mkN Vot.mk4 xs k i from rfl] at hset
      have hs1 := hs.1
      simp only [Vot.mk4] at hs1
      obtain ⟨K, hK⟩ : ∃ K, K = mkN Vot.mk4 xs k i := ⟨_, rfl⟩
      rw [← hK] at hs hs1 hr ⊢
      have w1 : IntKind.i64.wrap (K + 1) = K + 1 := wrap64 (by omega) (by omega)
      have w2 : IntKind.i64.wrap (K + 2) = K + 2 := wrap64 (by omega) (by omega)
      have w3 : IntKind.i64.wrap (K + 1 + 1) = K + 2 := by rw [wrap64 (by omega) (by omega)]; omega
      have w4 : IntKind.i64.wrap (K + 2 + 1) = K + 3 := by rw [wrap64 (by omega) (by omega)]; omega
      have w5 : IntKind.i64.wrap (K + 3 + 1) = K + 4 := by rw [wrap64 (by omega) (by omega)]; omega
      rw [← hK] at hset
      simp only [go_sem, h0, h3, hml, hlt, hw3, w1, w3, w4, w5]
      refine again_intro (i + 1) (by omega) (by omega) ?_
      simp only [go_sem, hset, hs1]
      try trivial
    · simp only [go_sem]
      have : i = xs.length := by omega
      subst this
      have e : midL (mkL Vot.mk4 xs k).1 xs xs.length = (mkL Vot.mk4 xs k).1 := by
        have := midL_all (mkL Vot.mk4 xs k).1 hM.symm
        rwa [hM] at this
      rw [mkN_all, e]
      simp only [go_sem]
      try trivial
theorem ok75 (xs : List Nws) (k : Int) (h1 : 0 ≤ k) (h2 : k + (tot (fun _ => 2) xs : Nat) ≤ 4611686018427387904) :
    VMut gz 75 [.lst true 2 (xs.map Nws.enc), .lit (.int .i64 k)] 0 (fun y x' => y = .lit (.int .i64 (mkL Nws.mk2 xs k).2) ∧ x' = .lst true 2 ((mkL Nws.mk2 xs k).1.map Nws.enc)) := by
  refine VMut.go (nt := 27) (keep := [0, 1, 4, 5, 9]) (i := 0) (mvs := []) [] f75_at rfl (by kernel_rfl) rfl (by kernel_rfl) rfl rfl rfl ?_
  intro hok
  simp only [go_sem] at hok
  simp only [Tryz.f75, Func.code, Option.getD_some]
  simp only [go_sem]
  have hM := mkL_length Nws.mk2 xs k
  refine vm_loopK (α := Nat) (fun i => [(0, .lst true 2 ((midL (mkL Nws.mk2 xs k).1 xs i).map Nws.enc)), (1, .lit (.int .i64 (mkN Nws.mk2 xs k i))), (4, .lit (.int .i64 0)), (5, .lit (.int .i64 i))]) (fun i => i ≤ xs.length) (fun i => xs.length - i) 0 ?_ (by omega) (by kernel_rfl) (fun _ => rfl) ?_
  · simp only [go_sem, midL_zero, mkN_zero]
    try trivial
  · intro i hi hk
    have hml : (midL (mkL Nws.mk2 xs k).1 xs i).length = xs.length := (midL_length (by omega) hM.symm).trans hM
    simp only [go_sem, hml]
    intro _
    first | refine branch_ndec (fun h3 => ?_) (fun h3 => ?_) | refine branch_dec (fun h3 => ?_) (fun h3 => ?_) | refine branch_nbool (fun h3 => ?_) (fun h3 => ?_) | refine branch_split (fun h3 => ?_) (fun h3 => ?_)
    · have hlt : i < xs.length := by omega
      have h0 : (0 : Int) ≤ (i : Int) := by omega
      have hs := mkN_succ Nws.mk2 xs k i hlt
      have hr := mkN_rng Nws.mk2 Nws.mk2_c xs k i
      have hr2 := mkN_rng Nws.mk2 Nws.mk2_c xs k (i + 1)
      have hw3 : IntKind.i64.wrap ((i : Int) + 1) = ((i + 1 : Nat) : Int) := by rw [wrap64 (by omega) (by omega)]; omega
      have hset : (midL (mkL Nws.mk2 xs k).1 xs i).modify i (fun x => ⟨mkN Nws.mk2 xs k i, mkN Nws.mk2 xs k i + 1⟩) = midL (mkL Nws.mk2 xs k).1 xs (i + 1) := midL_mod (by omega) hM.symm hs.2.symm
      have hs1 := hs.1
      simp only [Nws.mk2] at hs1
      obtain ⟨K, hK⟩ : ∃ K, K = mkN Nws.mk2 xs k i := ⟨_, rfl⟩
      rw [← hK] at hs hs1 hr ⊢
      have w1 : IntKind.i64.wrap (K + 1) = K + 1 := wrap64 (by omega) (by omega)
      have w2 : IntKind.i64.wrap (K + 2) = K + 2 := wrap64 (by omega) (by omega)
      have w3 : IntKind.i64.wrap (K + 1 + 1) = K + 2 := by rw [wrap64 (by omega) (by omega)]; omega
      have w4 : IntKind.i64.wrap (K + 2 + 1) = K + 3 := by rw [wrap64 (by omega) (by omega)]; omega
      have w5 : IntKind.i64.wrap (K + 3 + 1) = K + 4 := by rw [wrap64 (by omega) (by omega)]; omega
      rw [← hK] at hset
      simp only [go_sem, h0, h3, hml, hlt, hw3, w1, w3, w4, w5]
      refine again_intro (i + 1) (by omega) (by omega) ?_
      simp only [go_sem, hset, hs1]
      try trivial
    · simp only [go_sem]
      have : i = xs.length := by omega
      subst this
      have e : midL (mkL Nws.mk2 xs k).1 xs xs.length = (mkL Nws.mk2 xs k).1 := by
        have := midL_all (mkL Nws.mk2 xs k).1 hM.symm
        rwa [hM] at this
      rw [mkN_all, e]
      simp only [go_sem]
      try trivial
end Go.VS
set_option linter.unusedSimpArgs false
set_option linter.unusedVariables false
open Go.Proofs
set_option maxRecDepth 20000
namespace Go.VS
theorem f72_at : gz.P.funcs[72]? = some Tryz.f72 := by
  have h : Tryz.prog.funcs[72]? = some Tryz.f72 := by kernel_rfl
  exact h
theorem f73_at : gz.P.funcs[73]? = some Tryz.f73 := by
  have h : Tryz.prog.funcs[73]? = some Tryz.f73 := by kernel_rfl
  exact h
theorem mkL_rng {α : Type} (f : α → Int → α × Int) {w : α → Nat} (h : mkC f w) (xs : List α) (k : Int) : (mkL f xs k).2 = k + (tot w xs : Nat) := by
  have := mkN_add f h xs k xs.length
  rw [mkN_all, List.take_length] at this
  exact this
theorem tot_const {α : Type} (c : Nat) (xs : List α) : tot (fun _ => c) xs = xs.length * c := by
  unfold tot
  induction xs with
  | nil => simp
  | cons x xs ih => simp only [List.map_cons, List.sum_cons, List.length_cons, ih, Nat.add_mul, Nat.one_mul]; omega
def iM (xs : List Int) (k : Int) : List Int := (mkL intM xs k).1
def sM (xs : List ByteArray) (k : Int) : List ByteArray := (mkL strM xs k).1
theorem iM_snd (xs : List Int) (k : Int) : (mkL intM xs k).2 = k + (xs.length : Int) := by rw [mkL_rng _ intM_c, tot_const]; simp
theorem sM_snd (xs : List ByteArray) (k : Int) : (mkL strM xs k).2 = k + (xs.length : Int) := by rw [mkL_rng _ strM_c, tot_const]; simp
theorem iM_len (xs : List Int) (k : Int) : (iM xs k).length = xs.length := mkL_length _ _ _
theorem sM_len (xs : List ByteArray) (k : Int) : (sM xs k).length = xs.length := mkL_length _ _ _
theorem okI31 (xs : List Int) (k : Int) (h1 : 0 ≤ k) (h2 : k + xs.length ≤ 4611686018427387904) :
    VMut gz 31 [.lst true 1 (xs.map intA), .lit (.int .i64 k)] 0 (fun y x' => y = .lit (.int .i64 (k + xs.length)) ∧ x' = .lst true 1 ((iM xs k).map intA)) := by
  have := ok31 xs k h1 (by rw [tot_const]; omega)
  rwa [iM_snd] at this
theorem okI33 (xs : List Int) (k : Int) (h1 : 0 ≤ k) (h2 : k + xs.length ≤ 4611686018427387904) :
    VCalls gz 33 [.lst false 1 ((iM xs k).map intA), .lit (.int .i64 k)] none (fun y _ => y = .lit (.int .i64 (k + xs.length))) := by
  have := ok33 xs k h1 (by rw [tot_const]; omega)
  rwa [iM_snd] at this
theorem okI118 (xs : List ByteArray) (k : Int) (h1 : 0 ≤ k) (h2 : k + xs.length ≤ 4611686018427387904) :
    VMut gz 118 [.lst true 1 (xs.map strA), .lit (.int .i64 k)] 0 (fun y x' => y = .lit (.int .i64 (k + xs.length)) ∧ x' = .lst true 1 ((sM xs k).map strA)) := by
  have := ok118 xs k h1 (by rw [tot_const]; omega)
  rwa [sM_snd] at this
theorem tot_getD {α : Type} [Inhabited α] {w : α → Nat} {xs : List α} {i : Nat} (h : i < xs.length) (k : Int) {f : α → Int → α × Int} (hf : mkC f w) : mkN f xs k i + (w (xs.getD i default) : Nat) ≤ k + (tot w xs : Nat) := by
  have h1 := (mkN_succ f xs k i h).1
  have h2 := (mkN_rng f hf xs k (i + 1)).2
  rw [hf] at h1
  omega
def Prf.mw (p : Prf) : Nat := p.bys.length + p.tags.length
def Prf.mkP (p : Prf) (k : Int) : Prf × Int := (⟨p.view, p.name, iM p.bys k, iM p.tags (k + p.bys.length)⟩, k + p.mw)
theorem ok72 (p : Prf) (k : Int) (h1 : 0 ≤ k) (h2 : k + (p.mw : Nat) ≤ 4611686018427387904) :
    VMut gz 72 [p.enc true, .lit (.int .i64 k)] 0 (fun y x' => y = .lit (.int .i64 (p.mkP k).2) ∧ x' = (p.mkP k).1.enc true) := by
  have h2' : k + ((p.bys.length + p.tags.length : Nat) : Int) ≤ 4611686018427387904 := h2
  refine VMut.go (nt := 14) (keep := [0, 1, 2, 4]) (i := 0) (mvs := []) [] f72_at rfl (by kernel_rfl) rfl (by kernel_rfl) rfl rfl rfl ?_
  intro hok
  simp only [go_sem] at hok
  simp only [Tryz.f72, Func.code, Option.getD_some]
  simp only [go_sem]
  refine call_give 0 0 [.fld 2] rfl rfl rfl (by simp only [go_sem]; rfl) (by simp only [go_sem, List.getElem?_cons_zero, List.getElem?_cons_succ]) (by simp only [go_sem]) (by simp only [go_sem]) (by simp only [go_sem]) ?_
  simp only [go_sem, List.set]
  refine callW.eq (okI31 p.bys k h1 (by omega)) ?_
  simp only [go_sem]
  refine ⟨iM_len _ _, ?_⟩
  refine call_give 0 0 [.fld 3] rfl rfl rfl (by simp only [go_sem]; rfl) (by simp only [go_sem, List.getElem?_cons_zero, List.getElem?_cons_succ]) (by simp only [go_sem]) (by simp only [go_sem]) (by simp only [go_sem]) ?_
  simp only [go_sem, List.set]
  refine callW.eq (okI31 p.tags (k + p.bys.length) (by omega) (by omega)) ?_
  simp only [go_sem]
  refine ⟨iM_len _ _, ?_⟩
  have : k + (p.bys.length : Int) + (p.tags.length : Int) = k + (p.mw : Int) := by unfold Prf.mw; omega
  simp only [Prf.mkP, this]
  try trivial
theorem Blk.put0 {xs : List Blk} {o : Bool} {i : Nat} {a : Int} : (xs.map (Blk.enc o)).modify i (putF [0] (.lit (.int .i64 a))) = (xs.modify i (fun p => { p with view := a })).map (Blk.enc o) := modify_flds _ fun x => rfl
theorem Blk.put1 {xs : List Blk} {o : Bool} {i : Nat} {a : Int} : (xs.map (Blk.enc o)).modify i (putF [1] (.lit (.int .i64 a))) = (xs.modify i (fun p => { p with parent := a })).map (Blk.enc o) := modify_flds _ fun x => rfl
theorem Blk.put20 {xs : List Blk} {o : Bool} {i : Nat} {a : Int} : (xs.map (Blk.enc o)).modify i (putF [2, 0] (.lit (.int .i64 a))) = (xs.modify i (fun p => { p with proof := { p.proof with view := a } })).map (Blk.enc o) := modify_flds _ fun x => rfl
theorem Blk.put21 {xs : List Blk} {o : Bool} {i : Nat} {a : Int} : (xs.map (Blk.enc o)).modify i (putF [2, 1] (.lit (.int .i64 a))) = (xs.modify i (fun p => { p with proof := { p.proof with name := a } })).map (Blk.enc o) := modify_flds _ fun x => rfl
theorem Blk.put4 {xs : List Blk} {o : Bool} {i : Nat} {a : Int} : (xs.map (Blk.enc o)).modify i (putF [4] (.lit (.int .i64 a))) = (xs.modify i (fun p => { p with bY := a })).map (Blk.enc o) := modify_flds _ fun x => rfl
theorem Blk.putL22 {xs : List Blk} {i : Nat} {ys : List Int} : (xs.map (Blk.enc true)).modify i (putP [.fld 2, .fld 2] (.lst true 1 (ys.map intA))) = (xs.modify i (fun p => { p with proof := { p.proof with bys := ys } })).map (Blk.enc true) := modify_flds _ fun x => rfl
theorem Blk.putL23 {xs : List Blk} {i : Nat} {ys : List Int} : (xs.map (Blk.enc true)).modify i (putP [.fld 2, .fld 3] (.lst true 1 (ys.map intA))) = (xs.modify i (fun p => { p with proof := { p.proof with tags := ys } })).map (Blk.enc true) := modify_flds _ fun x => rfl
theorem Blk.putL3 {xs : List Blk} {i : Nat} {ys : List ByteArray} : (xs.map (Blk.enc true)).modify i (putP [.fld 3] (.lst true 1 (ys.map strA))) = (xs.modify i (fun p => { p with moves := ys })).map (Blk.enc true) := modify_flds _ fun x => rfl
attribute [go_sem] putP_lst Blk.put0 Blk.put1 Blk.put20 Blk.put21 Blk.put4 Blk.putL22 Blk.putL23 Blk.putL3
theorem getD_mod {L : List Blk} {i : Nat} {B : Blk} (h : i < L.length) (hb : L.getD i default = B) (f : Blk → Blk) : (L.modify i f).getD i default = f B := by
  simp [List.getD, List.getElem?_modify, h] at hb ⊢
  rw [hb]
def Blk.mw (b : Blk) : Nat := 5 + b.proof.bys.length + b.proof.tags.length + b.moves.length
def Blk.mkB (b : Blk) (k : Int) : Blk × Int := (⟨k, k + 1, ⟨k + 2, k + 3, iM b.proof.bys (k + 4), iM b.proof.tags (k + 4 + b.proof.bys.length)⟩, sM b.moves (k + 4 + b.proof.bys.length + b.proof.tags.length), k + 4 + b.proof.bys.length + b.proof.tags.length + b.moves.length⟩, k + b.mw)
theorem Blk.mkB_c : mkC Blk.mkB Blk.mw := fun x k => rfl
theorem ok73 (xs : List Blk) (k : Int) (h1 : 0 ≤ k) (h2 : k + (tot Blk.mw xs : Nat) ≤ 4611686018427387904) :
    VMut gz 73 [.lst true 8 (xs.map (Blk.enc true)), .lit (.int .i64 k)] 0 (fun y x' => y = .lit (.int .i64 (mkL Blk.mkB xs k).2) ∧ x' = .lst true 8 ((mkL Blk.mkB xs k).1.map (Blk.enc true))) := by
  refine VMut.go (nt := 73) (keep := [0, 1, 4, 5, 9]) (i := 0) (mvs := []) [] f73_at rfl (by kernel_rfl) rfl (by kernel_rfl) rfl rfl rfl ?_
  intro hok
  simp only [go_sem] at hok
  simp only [Tryz.f73, Func.code, Option.getD_some]
  simp only [go_sem]
  have hM := mkL_length Blk.mkB xs k
  refine vm_loopK (α := Nat) (fun i => [(0, .lst true 8 ((midL (mkL Blk.mkB xs k).1 xs i).map (Blk.enc true))), (1, .lit (.int .i64 (mkN Blk.mkB xs k i))), (4, .lit (.int .i64 0)), (5, .lit (.int .i64 i))]) (fun i => i ≤ xs.length) (fun i => xs.length - i) 0 ?_ (by omega) (by kernel_rfl) (fun _ => rfl) ?_
  · simp only [go_sem, midL_zero, mkN_zero]
    try trivial
  · intro i hi hk
    have hml : (midL (mkL Blk.mkB xs k).1 xs i).length = xs.length := (midL_length (by omega) hM.symm).trans hM
    simp only [go_sem, hml]
    intro _
    first | refine branch_ndec (fun h3 => ?_) (fun h3 => ?_) | refine branch_dec (fun h3 => ?_) (fun h3 => ?_) | refine branch_nbool (fun h3 => ?_) (fun h3 => ?_) | refine branch_split (fun h3 => ?_) (fun h3 => ?_)
    · have hlt : i < xs.length := by omega
      have h0 : (0 : Int) ≤ (i : Int) := by omega
      have hs := mkN_succ Blk.mkB xs k i hlt
      have hr := mkN_rng Blk.mkB Blk.mkB_c xs k i
      have hr2 := mkN_rng Blk.mkB Blk.mkB_c xs k (i + 1)
      have hw3 : IntKind.i64.wrap ((i : Int) + 1) = ((i + 1 : Nat) : Int) := by rw [wrap64 (by omega) (by omega)]; omega
      have hb : (midL (mkL Blk.mkB xs k).1 xs i).getD i default = xs.getD i default := midL_get (by omega) hM.symm
      have hmi := tot_getD (w := Blk.mw) hlt k Blk.mkB_c
      have hmw : (xs.getD i default).mw = 5 + (xs.getD i default).proof.bys.length + (xs.getD i default).proof.tags.length + (xs.getD i default).moves.length := rfl
      obtain ⟨B, hB⟩ : ∃ B, B = xs.getD i default := ⟨_, rfl⟩
      obtain ⟨K, hK⟩ : ∃ K, K = mkN Blk.mkB xs k i := ⟨_, rfl⟩
      rw [← hB] at hb hmw hmi hs
      rw [← hK] at hs hr hmi ⊢
      have hs1 : mkN Blk.mkB xs k (i + 1) = K + B.mw := hs.1
      have hset : (midL (mkL Blk.mkB xs k).1 xs i).modify i (fun _ => (B.mkB K).1) = midL (mkL Blk.mkB xs k).1 xs (i + 1) := midL_mod (by omega) hM.symm hs.2.symm
      have w1 : IntKind.i64.wrap (K + 1) = K + 1 := wrap64 (by omega) (by omega)
      have w3 : IntKind.i64.wrap (K + 1 + 1) = K + 2 := by rw [wrap64 (by omega) (by omega)]; omega
      have w4 : IntKind.i64.wrap (K + 2 + 1) = K + 3 := by rw [wrap64 (by omega) (by omega)]; omega
      have w5 : IntKind.i64.wrap (K + 3 + 1) = K + 4 := by rw [wrap64 (by omega) (by omega)]; omega
      obtain ⟨L, hL⟩ : ∃ L, L = midL (mkL Blk.mkB xs k).1 xs i := ⟨_, rfl⟩
      rw [← hL] at hml hb hset ⊢
      have hgd := getD_mod (by omega) hb
      have hge : ∀ f : Blk → Blk, (List.map (Blk.enc true) (L.modify i f))[i]? = some (Blk.enc true (f B)) := fun f => by
        have hlm : i < (L.modify i f).length := by rw [List.length_modify]; omega
        have h9 := hgd f
        simp only [List.getD, List.getElem?_eq_getElem hlm, Option.getD_some] at h9
        simp only [List.getElem?_map, List.getElem?_eq_getElem hlm, Option.map_some, h9]
      simp only [go_sem, h0, h3, hml, hlt, hw3, w1, w3, w4, w5, hgd]
      refine call_give 0 0 [.idx i, .fld 2, .fld 2] (x := .lst true 1 (B.proof.bys.map intA)) rfl rfl rfl (by simp only [go_sem, hge]) (by simp only [go_sem, List.getElem?_cons_zero, List.getElem?_cons_succ]) (by simp only [go_sem]) (by simp only [go_sem]) (by simp only [go_sem]) ?_
      simp only [go_sem, List.set]
      refine callW.eq (okI31 B.proof.bys (K + 4) (by omega) (by omega)) ?_
      simp only [go_sem, hgd, h0, h3, hml, hlt, hw3, w1, w3, w4, w5]
      refine ⟨iM_len _ _, ?_⟩
      refine call_give 0 0 [.idx i, .fld 2, .fld 3] (x := .lst true 1 (B.proof.tags.map intA)) rfl rfl rfl (by simp only [go_sem, hge]) (by simp only [go_sem, List.getElem?_cons_zero, List.getElem?_cons_succ]) (by simp only [go_sem]) (by simp only [go_sem]) (by simp only [go_sem]) ?_
      simp only [go_sem, List.set]
      refine callW.eq (okI31 B.proof.tags (K + 4 + B.proof.bys.length) (by omega) (by omega)) ?_
      simp only [go_sem, hgd, h0, h3, hml, hlt, hw3, w1, w3, w4, w5]
      refine ⟨iM_len _ _, ?_⟩
      refine call_give 0 0 [.idx i, .fld 3] (x := .lst true 1 (B.moves.map strA)) rfl rfl rfl (by simp only [go_sem, hge]) (by simp only [go_sem, List.getElem?_cons_zero, List.getElem?_cons_succ]) (by simp only [go_sem]) (by simp only [go_sem]) (by simp only [go_sem]) ?_
      simp only [go_sem, List.set]
      refine callW.eq (okI118 B.moves (K + 4 + B.proof.bys.length + B.proof.tags.length) (by omega) (by omega)) ?_
      simp only [go_sem, hgd, h0, h3, hml, hlt, hw3, w1, w3, w4, w5]
      refine ⟨sM_len _ _, ?_⟩
      have w9 : IntKind.i64.wrap (K + 4 + B.proof.bys.length + B.proof.tags.length + B.moves.length + 1) = K + B.mw := by rw [wrap64 (by omega) (by omega)]; omega
      simp only [go_sem, w9]
      refine again_intro (i + 1) (by omega) (by omega) ?_
      simp only [go_sem, hs1]
      exact congrArg (List.map (Blk.enc true)) hset
    · simp only [go_sem]
      have : i = xs.length := by omega
      subst this
      have e : midL (mkL Blk.mkB xs k).1 xs xs.length = (mkL Blk.mkB xs k).1 := by
        have := midL_all (mkL Blk.mkB xs k).1 hM.symm
        rwa [hM] at this
      rw [mkN_all, e]
      simp only [go_sem]
      try trivial
end Go.VS
set_option linter.unusedSimpArgs false
set_option linter.unusedVariables false
open Go.Proofs
set_option maxRecDepth 20000
namespace Go.VS
theorem f29_at : gz.P.funcs[29]? = some Tryz.f29 := by
  have h : Tryz.prog.funcs[29]? = some Tryz.f29 := by kernel_rfl
  exact h
def bM (xs : List Blk) (k : Int) : List Blk := (mkL Blk.mkB xs k).1
def vM (xs : List Vot) (k : Int) : List Vot := (mkL Vot.mk4 xs k).1
def nM (xs : List Nws) (k : Int) : List Nws := (mkL Nws.mk2 xs k).1
def bT (xs : List Blk) : Nat := tot Blk.mw xs
theorem bM_snd (xs : List Blk) (k : Int) : (mkL Blk.mkB xs k).2 = k + (bT xs : Int) := mkL_rng _ Blk.mkB_c xs k
theorem vM_snd (xs : List Vot) (k : Int) : (mkL Vot.mk4 xs k).2 = k + ((xs.length * 4 : Nat) : Int) := by rw [mkL_rng _ Vot.mk4_c, tot_const]
theorem nM_snd (xs : List Nws) (k : Int) : (mkL Nws.mk2 xs k).2 = k + ((xs.length * 2 : Nat) : Int) := by rw [mkL_rng _ Nws.mk2_c, tot_const]
theorem bM_len (xs : List Blk) (k : Int) : (bM xs k).length = xs.length := mkL_length _ _ _
theorem vM_len (xs : List Vot) (k : Int) : (vM xs k).length = xs.length := mkL_length _ _ _
theorem nM_len (xs : List Nws) (k : Int) : (nM xs k).length = xs.length := mkL_length _ _ _
theorem okI73 (xs : List Blk) (k : Int) (h1 : 0 ≤ k) (h2 : k + (bT xs : Int) ≤ 4611686018427387904) :
    VMut gz 73 [.lst true 8 (xs.map (Blk.enc true)), .lit (.int .i64 k)] 0 (fun y x' => y = .lit (.int .i64 (k + (bT xs : Int))) ∧ x' = .lst true 8 ((bM xs k).map (Blk.enc true))) := by
  have := ok73 xs k h1 h2
  rwa [bM_snd] at this
theorem okI74 (xs : List Vot) (k : Int) (h1 : 0 ≤ k) (h2 : k + ((xs.length * 4 : Nat) : Int) ≤ 4611686018427387904) :
    VMut gz 74 [.lst true 4 (xs.map Vot.enc), .lit (.int .i64 k)] 0 (fun y x' => y = .lit (.int .i64 (k + ((xs.length * 4 : Nat) : Int))) ∧ x' = .lst true 4 ((vM xs k).map Vot.enc)) := by
  have := ok74 xs k h1 (by rw [tot_const]; exact h2)
  rwa [vM_snd] at this
theorem okI75 (xs : List Nws) (k : Int) (h1 : 0 ≤ k) (h2 : k + ((xs.length * 2 : Nat) : Int) ≤ 4611686018427387904) :
    VMut gz 75 [.lst true 2 (xs.map Nws.enc), .lit (.int .i64 k)] 0 (fun y x' => y = .lit (.int .i64 (k + ((xs.length * 2 : Nat) : Int))) ∧ x' = .lst true 2 ((nM xs k).map Nws.enc)) := by
  have := ok75 xs k h1 (by rw [tot_const]; exact h2)
  rwa [nM_snd] at this
def Rpl.k1 (r : Rpl) (k : Int) : Int := k + (r.high.mw : Int)
def Rpl.k2 (r : Rpl) (k : Int) : Int := r.k1 k + (bT r.blocks : Int)
def Rpl.k3 (r : Rpl) (k : Int) : Int := r.k2 k + ((r.votes.length * 4 : Nat) : Int)
def Rpl.k4 (r : Rpl) (k : Int) : Int := r.k3 k + ((r.news.length * 2 : Nat) : Int)
def Rpl.k5 (r : Rpl) (k : Int) : Int := r.k4 k + (r.done.length : Int)
def Rpl.mkR (r : Rpl) (k : Int) : Rpl := ⟨r.id, r.n, r.view, r.voted, r.locked, r.proposed, (r.high.mkP k).1, bM r.blocks (r.k1 k), vM r.votes (r.k2 k), nM r.news (r.k3 k), iM r.done (r.k4 k)⟩
theorem ok29 (r : Rpl) (k : Int) (h1 : 0 ≤ k) (h2 : r.k5 k ≤ 4611686018427387904) :
    VMut gz 29 [r.enc true, .lit (.int .i64 k)] 0 (fun y x' => y = .lit (.int .i64 (r.k5 k)) ∧ x' = (r.mkR k).enc true) := by
  have e1 : r.k1 k = k + (r.high.mw : Int) := rfl
  have e2 : r.k2 k = r.k1 k + (bT r.blocks : Int) := rfl
  have e3 : r.k3 k = r.k2 k + ((r.votes.length * 4 : Nat) : Int) := rfl
  have e4 : r.k4 k = r.k3 k + ((r.news.length * 2 : Nat) : Int) := rfl
  have e5 : r.k5 k = r.k4 k + (r.done.length : Int) := rfl
  refine VMut.go (nt := 26) (keep := [0, 1, 2, 4]) (i := 0) (mvs := []) [] f29_at rfl (by kernel_rfl) rfl (by kernel_rfl) rfl rfl rfl ?_
  intro hok
  simp only [go_sem] at hok
  simp only [Tryz.f29, Func.code, Option.getD_some]
  simp only [go_sem]
  refine call_give 0 0 [.fld 6] rfl rfl rfl (by simp only [go_sem]; rfl) (by simp only [go_sem, List.getElem?_cons_zero, List.getElem?_cons_succ]) (by simp only [go_sem]) (by simp only [go_sem]) (by simp only [go_sem]) ?_
  simp only [go_sem, List.set]
  refine callW.eq (ok72 r.high k h1 (by omega)) ?_
  simp only [go_sem]
  have e0 : (r.high.mkP k).2 = r.k1 k := rfl
  rw [e0]
  refine ⟨⟨rfl, rfl, iM_len _ _, iM_len _ _⟩, ?_⟩
  refine call_give 0 0 [.fld 7] rfl rfl rfl (by simp only [go_sem]; rfl) (by simp only [go_sem, List.getElem?_cons_zero, List.getElem?_cons_succ]) (by simp only [go_sem]) (by simp only [go_sem]) (by simp only [go_sem]) ?_
  simp only [go_sem, List.set]
  refine callW.eq (okI73 r.blocks (r.k1 k) (by omega) (by omega)) ?_
  simp only [go_sem]
  rw [← e2]
  refine ⟨bM_len _ _, ?_⟩
  refine call_give 0 0 [.fld 8] rfl rfl rfl (by simp only [go_sem]; rfl) (by simp only [go_sem, List.getElem?_cons_zero, List.getElem?_cons_succ]) (by simp only [go_sem]) (by simp only [go_sem]) (by simp only [go_sem]) ?_
  simp only [go_sem, List.set]
  refine callW.eq (okI74 r.votes (r.k2 k) (by omega) (by omega)) ?_
  simp only [go_sem]
  rw [← e3]
  refine ⟨vM_len _ _, ?_⟩
  refine call_give 0 0 [.fld 9] rfl rfl rfl (by simp only [go_sem]; rfl) (by simp only [go_sem, List.getElem?_cons_zero, List.getElem?_cons_succ]) (by simp only [go_sem]) (by simp only [go_sem]) (by simp only [go_sem]) ?_
  simp only [go_sem, List.set]
  refine callW.eq (okI75 r.news (r.k3 k) (by omega) (by omega)) ?_
  simp only [go_sem]
  rw [← e4]
  refine ⟨nM_len _ _, ?_⟩
  refine call_give 0 0 [.fld 10] rfl rfl rfl (by simp only [go_sem]; rfl) (by simp only [go_sem, List.getElem?_cons_zero, List.getElem?_cons_succ]) (by simp only [go_sem]) (by simp only [go_sem]) (by simp only [go_sem]) ?_
  simp only [go_sem, List.set]
  refine callW.eq (okI31 r.done (r.k4 k) (by omega) (by omega)) ?_
  simp only [go_sem]
  rw [← e5]
  refine ⟨iM_len _ _, ?_⟩
  try trivial
end Go.VS
