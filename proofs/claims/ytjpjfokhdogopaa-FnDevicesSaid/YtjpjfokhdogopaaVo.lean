/- VS: how a device is read: a range over what goes backwards; its walk is the kit's own. -/
import Derived.Test.YtjpjfokhdogopaaVj
import Derived.Test.YtjpjfokhdogopaaVl
set_option linter.unusedSimpArgs false
set_option linter.unusedVariables false
open Go.Proofs Go.RowKit
set_option maxRecDepth 20000
namespace Go.VS

theorem run_enter {P : Program} {f : FuncId} {fn : Func} (hf : P.funcs[f]? = some fn) (hb : fn.body.isSome = true) (hnm : (fn.name == "runtime.NumGoroutine") = false) (args : Array Value) (w : World) : (callFunc f args).run P w = .ok (.enter f args) w := by
  obtain ⟨code, hc⟩ := Option.isSome_iff_exists.1 hb
  have hp : (program).run P w = .ok P w := rfl
  simp only [callFunc, Sem.run_bind, hp, Result.andThen_ok, hf, hc, Option.isNone_some]
  simp [hnm]

/-- a function whose walk was made elsewhere, and which answers with a literal -/
theorem VCalls.of_calls {g : Sys} {f : FuncId} {xs : List AVal} {v : Value} (hent : ∀ args w, (callFunc f args).run g.P w = .ok (.enter f args) w)
    (h : ∀ (w : World) (S : Nat → Prop) (args : Array Value), args.size = xs.length → (∀ b, S b → b < w.heap.size) → (∀ (i : Nat) (v : Value) (x : AVal), args[i]? = some v → xs[i]? = some x → RepV w.heap S (fun _ => none) ⟨i, []⟩ v x) →
      litOk v ∧ isAggV v = false ∧ v.cells.toList = [v] ∧ Calls g.P f args w fun e w' => e = .returned v ∧ Below w.heap.size w w') : VCalls g f xs none (fun y _ => y = .lit v) := by
  intro w S o args hsz hwo hown hrep
  have ho : o = fun _ => none := by
    funext b
    cases hb : o b with
    | none => rfl
    | some l =>
      have := (hown b l hb).1
      cases this
  subst ho
  obtain ⟨h1, h2, h2', h3⟩ := h w S args hsz (fun b hb => (hwo.sh b hb).2) hrep
  unfold Gives
  rw [hent]
  refine Calls.mono h3 ?_
  rintro e w' ⟨rfl, hb⟩
  have hp : ∀ b, b < w.heap.size → w'.heap[b]? = w.heap[b]? := fun b hb' => hb.block b hb'
  refine ⟨.lit v, .undef, S, fun _ => none, rfl, ⟨fun b m hm => (by cases hm), fun b b' m hm => (by cases hm), fun b m hm => (by cases hm), fun b hb' => ⟨rfl, Nat.lt_of_lt_of_le (hwo.sh b hb').2 hb.size⟩, g.stay w w' (fun b hb' => hp b (Nat.lt_of_lt_of_le hb' hwo.ngs)) hwo.gl, Nat.le_trans hwo.ngs hb.size⟩,
    ⟨hb.os, hb.tape, hb.output, hb.size, fun b hb' _ => ⟨rfl, hp b hb'⟩, fun b hb' => hb', fun b hb' => .inl hb', fun b hb' => .of_eq (hp b hb')⟩, fun b l hl => (by cases hl), ?_, by simp [noRef], fun i u hi => (by cases hi)⟩
  exact .inl (.inr ⟨by rw [h2']; exact .shd (.lit h1), by rw [h2]; rfl⟩)

/-- what is shared, looked into -/
theorem shd_parts {h : Array Obj} {S : Nat → Prop} {l : Loc} {v : Value} {xs : List AVal} (r : RepV h S (fun _ => none) l v (.agg xs)) : ∃ cs : Array Value, v = .agg cs ∧ ∃ css : List (List Value), css.length = xs.length ∧ cs.toList = css.flatten ∧
    ∀ (i : Nat) (c : List Value) (x : AVal), css[i]? = some c → xs[i]? = some x → Rep h S (fun _ => none) (l.fld i) c x := by
  rcases r with (r | ⟨r, hg⟩) | ⟨vs, ys, h1, _⟩
  · cases r
  · cases v with
    | agg cs =>
      obtain ⟨css, h1, h2, h3⟩ := r.agg_inv
      exact ⟨cs, rfl, css, h1, h2, h3⟩
    | _ => simp [isAggA, isAggV] at hg
  · cases h1

theorem take1 {cs : List Value} {n : Nat} {v : Value} (h : (cs.drop n).take 1 = [v]) : cs[n]? = some v := by
  have := congrArg (fun l => l[0]?) h
  simpa [List.getElem?_take, List.getElem?_drop] using this
theorem take2 {cs : List Value} {n : Nat} {u v : Value} (h : (cs.drop n).take 2 = [u, v]) : cs[n]? = some u ∧ cs[n + 1]? = some v := by
  have h0 := congrArg (fun l => l[0]?) h
  have h1 := congrArg (fun l => l[1]?) h
  simp [List.getElem?_take, List.getElem?_drop] at h0 h1
  exact ⟨h0, h1⟩
theorem lies_C0 {w : World} {S : Nat → Prop} (hS : ∀ b, S b → b < w.heap.size) {l : Loc} {c : List Value} {ss : List ByteArray} (r : Rep w.heap S (fun _ => none) l c (.lst false 1 (ss.map strA))) : ∃ A cap, c = [.slice A ss.length cap] ∧ Lies.C0 w A ss := by
  rcases r.shd_lst_inv.lst_inv with ⟨_, ⟨ad, cap, rfl, h1, _⟩ | ⟨b, off, cap, cur, t, fr, rfl, h1, h2, h3, h4, h5, h6⟩⟩
  · have : ss = [] := by simpa using h1
    subst this
    exact ⟨ad, cap, rfl, fun h => by simp at h⟩
  · refine ⟨some ⟨b, off, none⟩, cap, by rw [List.length_map], fun _ => ⟨b, off, rfl, hS b h2, fun j hj => ?_⟩⟩
    have h7 : RepS w.heap S ((cur.toList.drop (off + j * 1)).take 1) (strA (ss.getD j ByteArray.empty)) := h6 j _ (by simp [hj, List.getD])
    have h8 := take1 (Rep.lit_inv (.shd h7 : Rep w.heap S (fun _ => none) l _ _)).1
    rw [Nat.mul_one, Array.getElem?_toList] at h8
    simp only [World.cell?, h1]
    exact h8
theorem lies_C1 {w : World} {S : Nat → Prop} (hS : ∀ b, S b → b < w.heap.size) {l : Loc} {c : List Value} {ps : List Patch} (r : Rep w.heap S (fun _ => none) l c (.lst false 2 (ps.map Patch.enc))) :
    ∃ A cap, c = [.slice A (ps.map fun p => Lies.S65.mk p.place p.text).length cap] ∧ Lies.C1 w A (ps.map fun p => Lies.S65.mk p.place p.text) := by
  rcases r.shd_lst_inv.lst_inv with ⟨_, ⟨ad, cap, rfl, h1, _⟩ | ⟨b, off, cap, cur, t, fr, rfl, h1, h2, h3, h4, h5, h6⟩⟩
  · have : ps = [] := by simpa using h1
    subst this
    exact ⟨ad, cap, rfl, fun h => by simp at h⟩
  · refine ⟨some ⟨b, off, none⟩, cap, by simp only [List.length_map], fun _ => ⟨b, off, rfl, hS b h2, fun j hj => ?_⟩⟩
    have hj' : j < ps.length := by simpa using hj
    have h7 : RepS w.heap S ((cur.toList.drop (off + j * 2)).take 2) (Patch.enc (ps.getD j default)) := h6 j _ (by simp [hj', List.getD])
    obtain ⟨css, g1, g2, g3⟩ := Rep.agg_inv (.shd h7 : Rep w.heap S (fun _ => none) l _ (.agg [.lit (.int .i64 (ps.getD j default).place), .lit (.string (ps.getD j default).text)]))
    match css, g1 with
    | [c0, c1], _ =>
      have e0 := (g3 0 c0 _ rfl rfl).lit_inv.1
      have e1 := (g3 1 c1 _ rfl rfl).lit_inv.1
      subst e0 e1
      have h8 := take2 (u := .int .i64 (ps.getD j default).place) (v := .string (ps.getD j default).text) (g2.trans rfl)
      rw [Array.getElem?_toList, Array.getElem?_toList] at h8
      have e : (ps.map fun p => Lies.S65.mk p.place p.text).getD j Lies.z65 = ⟨(ps.getD j default).place, (ps.getD j default).text⟩ := by
        simp [List.getD, hj']
      rw [e]
      simp only [World.cell?, h1]
      exact h8

theorem liesN_foldl (ps : List Patch) (a : Int) (s : ByteArray) : ∀ n, n ≤ ps.length → liesN ps a s n = (((ps.take n).map fun p => Lies.S65.mk p.place p.text).foldl (Lies.ls_step a) none).getD s
  | 0, _ => by simp [liesN]
  | n + 1, h => by
    rw [take_succ_getD (by omega), List.map_append, List.foldl_append]
    simp only [List.map_cons, List.map_nil, List.foldl_cons, List.foldl_nil, liesN, Lies.ls_step]
    split
    · rfl
    · exact liesN_foldl ps a s n (by omega)
theorem foldl_ls (a : Int) : ∀ (l : List Lies.S65) (o : Option ByteArray), (∃ p ∈ l, l.foldl (Lies.ls_step a) o = some p.f1) ∨ l.foldl (Lies.ls_step a) o = o
  | [], o => .inr rfl
  | p :: l, o => by
    rw [List.foldl_cons]
    rcases foldl_ls a l (Lies.ls_step a o p) with ⟨q, hq, h⟩ | h
    · exact .inl ⟨q, by simp [hq], h⟩
    · rw [h]
      unfold Lies.ls_step
      split
      · exact .inl ⟨p, by simp, rfl⟩
      · exact .inr rfl
theorem liesN_size (ps : List Patch) (a : Int) (s : ByteArray) (m : Nat) (h1 : s.size ≤ m) (h2 : ∀ p ∈ ps, p.text.size ≤ m) : ∀ n, n ≤ ps.length → (liesN ps a s n).size ≤ m
  | 0, _ => h1
  | n + 1, h => by
    simp only [liesN]
    split
    · exact h2 _ (getD_mem (by omega))
    · exact liesN_size ps a s m h1 h2 n (by omega)

theorem ok36 (d : Dev) (a : Int) (h1 : 0 ≤ a) (h2 : a < d.secs.length) (hl : d.late.length ≤ 1000000) : VCalls gz 36 [d.enc false, .lit (.int .i64 a)] none (fun y _ => y = .lit (.string (liesN d.late a (d.secs.getD a.toNat default) d.late.length))) := by
  have hat : gz.P.funcs[36]? = some Try.f36 := by
    have h : Try.prog.funcs[36]? = some Try.f36 := by kernel_rfl
    exact h
  refine VCalls.of_calls (run_enter hat (by kernel_rfl) (by kernel_rfl)) fun w S args hsz hS hrep => ?_
  obtain ⟨v0, v1, rfl⟩ : ∃ v0 v1, args = #[v0, v1] := by
    match args, hsz with
    | ⟨[v0, v1]⟩, _ => exact ⟨v0, v1, rfl⟩
  have r0 := hrep 0 v0 _ rfl rfl
  have r1 := (hrep 1 v1 _ rfl rfl).lit.1
  subst r1
  have hk := r0.okA
  simp only [Dev.enc, okA, okAs, and_true] at hk
  obtain ⟨cs, rfl, css, g1, g2, g3⟩ := shd_parts r0
  match css, g1 with
  | [c0, c1], _ =>
    obtain ⟨A0, k0, rfl, C0⟩ := lies_C0 hS (g3 0 c0 _ rfl rfl)
    obtain ⟨A1, k1, rfl, C1⟩ := lies_C1 hS (g3 1 c1 _ rfl rfl)
    have hcs : cs = #[.slice A0 d.secs.length k0, .slice A1 (d.late.map fun p => Lies.S65.mk p.place p.text).length k1] := by
      apply Array.toList_inj.1
      rw [g2]
      rfl
    subst hcs
    have hr : Lies.impl_Device_lies.f d.secs (d.late.map fun p => Lies.S65.mk p.place p.text) a = some (liesN d.late a (d.secs.getD a.toNat default) d.late.length) := by
      rw [liesN_foldl _ _ _ _ (Nat.le_refl _), List.take_length]
      unfold Lies.impl_Device_lies.f
      cases hf : List.foldl (Lies.ls_step a) none (d.late.map fun p => Lies.S65.mk p.place p.text) with
      | some s => rfl
      | none =>
        simp only [if_pos h1, if_pos h2]
        rfl
    have hsize : (liesN d.late a (d.secs.getD a.toNat default) d.late.length).size ≤ maxLen := by
      refine liesN_size _ _ _ _ ?_ ?_ _ (Nat.le_refl _)
      · have := okAs_all.1 hk.1.2 (strA (d.secs.getD a.toNat default)) (List.mem_map.2 ⟨_, getD_mem (by omega), rfl⟩)
        simpa [okA, strA, litOk] using this
      · intro p hp
        have := okAs_all.1 hk.2.2 p.enc (List.mem_map.2 ⟨p, hp, rfl⟩)
        simp only [Patch.enc, okA, okAs, litOk] at this
        exact this.2.1
    refine ⟨hsize, rfl, rfl, ?_⟩
    exact Lies.impl_Device_lies.calls A0 k0 d.secs A1 k1 _ a _ w C0 C1 hr (by simpa using hl)
end Go.VS

set_option linter.unusedSimpArgs false
set_option linter.unusedVariables false
open Go.Proofs
set_option maxRecDepth 20000
namespace Go.VS
theorem f16_at : gz.P.funcs[16]? = some Try.f16 := by
  have h : Try.prog.funcs[16]? = some Try.f16 := by kernel_rfl
  exact h
theorem ok16 (d : Dev) (a : Int) : VCalls gz 16 [d.enc false, .lit (.int .i64 a)] none (fun y _ => y = .lit (.string (d.lies a))) := by
  refine VCalls.go (nt := 17) (keep := [0, 1, 2, 4, 13]) (muts := []) (mvs := []) [] f16_at rfl (by kernel_rfl) rfl (by kernel_rfl) rfl (fun i h => by cases h) rfl ?_
  intro hok
  simp only [go_sem, Nat.reduceAdd, Nat.reduceSub, Nat.reduceMul, Nat.reduceEqDiff, Nat.reduceBEq, Nat.reduceBNe, Nat.reduceLT, Nat.reduceLeDiff, Int.reduceNeg, Int.reduceAdd, Int.reduceSub, Int.reduceMul, Int.reduceEq, Int.reduceLT, Int.reduceLE, Int.reduceToNat, reduceIte, reduceCtorEq] at hok
  simp only [Try.f16, Func.code, Option.getD_some]
  simp only [go_sem, Nat.reduceAdd, Nat.reduceSub, Nat.reduceMul, Nat.reduceEqDiff, Nat.reduceBEq, Nat.reduceBNe, Nat.reduceLT, Nat.reduceLeDiff, Int.reduceNeg, Int.reduceAdd, Int.reduceSub, Int.reduceMul, Int.reduceEq, Int.reduceLT, Int.reduceLE, Int.reduceToNat, reduceIte, reduceCtorEq]
  refine call_lend ?_
  simp only [go_sem, Nat.reduceAdd, Nat.reduceSub, Nat.reduceMul, Nat.reduceEqDiff, Nat.reduceBEq, Nat.reduceBNe, Nat.reduceLT, Nat.reduceLeDiff, Int.reduceNeg, Int.reduceAdd, Int.reduceSub, Int.reduceMul, Int.reduceEq, Int.reduceLT, Int.reduceLE, Int.reduceToNat, reduceIte, reduceCtorEq]
  refine callN.eq (ok18 d) (by simp only [go_sem, Nat.reduceAdd, Nat.reduceSub, Nat.reduceMul, Nat.reduceEqDiff, Nat.reduceBEq, Nat.reduceBNe, Nat.reduceLT, Nat.reduceLeDiff, Int.reduceNeg, Int.reduceAdd, Int.reduceSub, Int.reduceMul, Int.reduceEq, Int.reduceLT, Int.reduceLE, Int.reduceToNat, reduceIte, reduceCtorEq]) ?_
  simp only [go_sem, Nat.reduceAdd, Nat.reduceSub, Nat.reduceMul, Nat.reduceEqDiff, Nat.reduceBEq, Nat.reduceBNe, Nat.reduceLT, Nat.reduceLeDiff, Int.reduceNeg, Int.reduceAdd, Int.reduceSub, Int.reduceMul, Int.reduceEq, Int.reduceLT, Int.reduceLE, Int.reduceToNat, reduceIte, reduceCtorEq]
  first | refine gj_ndec (fun h1 => ?_) (fun h1 => ?_) | refine gj_dec (fun h1 => ?_) (fun h1 => ?_) | refine gj_nbool (fun h1 => ?_) (fun h1 => ?_) | refine gj_bool (fun h1 => ?_) (fun h1 => ?_)
  · simp only [go_sem, Nat.reduceAdd, Nat.reduceSub, Nat.reduceMul, Nat.reduceEqDiff, Nat.reduceBEq, Nat.reduceBNe, Nat.reduceLT, Nat.reduceLeDiff, Int.reduceNeg, Int.reduceAdd, Int.reduceSub, Int.reduceMul, Int.reduceEq, Int.reduceLT, Int.reduceLE, Int.reduceToNat, reduceIte, reduceCtorEq, h1]
    refine call_lend ?_
    simp only [go_sem, Nat.reduceAdd, Nat.reduceSub, Nat.reduceMul, Nat.reduceEqDiff, Nat.reduceBEq, Nat.reduceBNe, Nat.reduceLT, Nat.reduceLeDiff, Int.reduceNeg, Int.reduceAdd, Int.reduceSub, Int.reduceMul, Int.reduceEq, Int.reduceLT, Int.reduceLE, Int.reduceToNat, reduceIte, reduceCtorEq]
    refine callN.eq (ok28 d a ⟨#[]⟩) (by simp only [go_sem, Nat.reduceAdd, Nat.reduceSub, Nat.reduceMul, Nat.reduceEqDiff, Nat.reduceBEq, Nat.reduceBNe, Nat.reduceLT, Nat.reduceLeDiff, Int.reduceNeg, Int.reduceAdd, Int.reduceSub, Int.reduceMul, Int.reduceEq, Int.reduceLT, Int.reduceLE, Int.reduceToNat, reduceIte, reduceCtorEq]) ?_
    simp only [go_sem, Nat.reduceAdd, Nat.reduceSub, Nat.reduceMul, Nat.reduceEqDiff, Nat.reduceBEq, Nat.reduceBNe, Nat.reduceLT, Nat.reduceLeDiff, Int.reduceNeg, Int.reduceAdd, Int.reduceSub, Int.reduceMul, Int.reduceEq, Int.reduceLT, Int.reduceLE, Int.reduceToNat, reduceIte, reduceCtorEq]
    first | refine branch_ndec (fun h2 => ?_) (fun h2 => ?_) | refine branch_dec (fun h2 => ?_) (fun h2 => ?_) | refine branch_nbool (fun h2 => ?_) (fun h2 => ?_) | refine branch_split (fun h2 => ?_) (fun h2 => ?_)
    · simp only [go_sem, Nat.reduceAdd, Nat.reduceSub, Nat.reduceMul, Nat.reduceEqDiff, Nat.reduceBEq, Nat.reduceBNe, Nat.reduceLT, Nat.reduceLeDiff, Int.reduceNeg, Int.reduceAdd, Int.reduceSub, Int.reduceMul, Int.reduceEq, Int.reduceLT, Int.reduceLE, Int.reduceToNat, reduceIte, reduceCtorEq]
      simp only [Dev.fits, Bool.and_eq_true, decide_eq_true_eq] at h2
      have h3 : 0 ≤ a ∧ a < d.secs.length := by omega
      have h4 := (Dev.ok_small h1).2.2.2
      refine call_lend ?_
      simp only [go_sem, Nat.reduceAdd, Nat.reduceSub, Nat.reduceMul, Nat.reduceEqDiff, Nat.reduceBEq, Nat.reduceBNe, Nat.reduceLT, Nat.reduceLeDiff, Int.reduceNeg, Int.reduceAdd, Int.reduceSub, Int.reduceMul, Int.reduceEq, Int.reduceLT, Int.reduceLE, Int.reduceToNat, reduceIte, reduceCtorEq]
      refine callN.eq (ok36 d a h3.1 h3.2 (by omega)) (by simp only [go_sem, Nat.reduceAdd, Nat.reduceSub, Nat.reduceMul, Nat.reduceEqDiff, Nat.reduceBEq, Nat.reduceBNe, Nat.reduceLT, Nat.reduceLeDiff, Int.reduceNeg, Int.reduceAdd, Int.reduceSub, Int.reduceMul, Int.reduceEq, Int.reduceLT, Int.reduceLE, Int.reduceToNat, reduceIte, reduceCtorEq]) ?_
      simp only [go_sem, Nat.reduceAdd, Nat.reduceSub, Nat.reduceMul, Nat.reduceEqDiff, Nat.reduceBEq, Nat.reduceBNe, Nat.reduceLT, Nat.reduceLeDiff, Int.reduceNeg, Int.reduceAdd, Int.reduceSub, Int.reduceMul, Int.reduceEq, Int.reduceLT, Int.reduceLE, Int.reduceToNat, reduceIte, reduceCtorEq]
      simp only [Dev.lies, h1, h3, and_self, if_true]
    · simp only [go_sem, Nat.reduceAdd, Nat.reduceSub, Nat.reduceMul, Nat.reduceEqDiff, Nat.reduceBEq, Nat.reduceBNe, Nat.reduceLT, Nat.reduceLeDiff, Int.reduceNeg, Int.reduceAdd, Int.reduceSub, Int.reduceMul, Int.reduceEq, Int.reduceLT, Int.reduceLE, Int.reduceToNat, reduceIte, reduceCtorEq]
      have h3 : ¬ (0 ≤ a ∧ a < d.secs.length) := by
        intro h
        have : d.fits a ⟨#[]⟩ = true := by
          simp only [Dev.fits, Bool.and_eq_true, decide_eq_true_eq]
          exact ⟨by omega, by decide⟩
        rw [h2] at this
        cases this
      simp only [Dev.lies, h3, and_false, if_false]
      rfl
  · simp only [go_sem, Nat.reduceAdd, Nat.reduceSub, Nat.reduceMul, Nat.reduceEqDiff, Nat.reduceBEq, Nat.reduceBNe, Nat.reduceLT, Nat.reduceLeDiff, Int.reduceNeg, Int.reduceAdd, Int.reduceSub, Int.reduceMul, Int.reduceEq, Int.reduceLT, Int.reduceLE, Int.reduceToNat, reduceIte, reduceCtorEq, h1]
    simp only [Dev.lies, h1, Bool.false_eq_true, false_and, if_false]
    rfl
end Go.VS

set_option linter.unusedSimpArgs false
set_option linter.unusedVariables false
open Go.Proofs
set_option maxRecDepth 20000
namespace Go.VS
theorem Dev.like_self {d : Dev} : d.like d = true := by simp [Dev.like]
theorem Dev.lay_lies {d : Dev} {a : Int} {t : ByteArray} (h : (d.lay a t).2 = true) : (d.lay a t).1.lies a = t ∧ (d.lay a t).1.ok = true := by
  have hok : d.ok = true := by
    unfold Dev.lay at h
    split at h
    · assumption
    · cases h
  have hk := Dev.lay_ok hok a t
  refine ⟨?_, hk⟩
  unfold Dev.lies
  have hx : (d.lay a t).1 = ⟨d.secs, d.late ++ [⟨a, t⟩]⟩ ∧ d.fits a t = true := by
    unfold Dev.lay at h ⊢
    rw [if_pos hok] at h ⊢
    split at h
    · rename_i h2
      rw [if_pos h2]
      exact ⟨rfl, h2.1⟩
    · cases h
  have hf := hx.2
  simp only [Dev.fits, Bool.and_eq_true, decide_eq_true_eq] at hf
  rw [hx.1] at hk ⊢
  rw [if_pos ⟨hk, by simp only; omega⟩]
  simp only [List.length_append, List.length_cons, List.length_nil, Nat.zero_add, liesN]
  have : (d.late ++ [(⟨a, t⟩ : Patch)]).getD d.late.length default = ⟨a, t⟩ := by simp [List.getD]
  rw [this]
  simp
theorem getD_set_text {ss : List ByteArray} {k i : Nat} {v : ByteArray} (hk : k < ss.length) : (ss.set k v).getD i default = if k = i then v else ss.getD i default := by
  simp only [List.getD, List.getElem?_set]
  by_cases h : k = i
  · subst h
    simp [hk]
  · simp [h]
theorem settleN_at (k : Nat → Bool) (late : List Patch) (ss : List ByteArray) (hp : ∀ p ∈ late, 0 ≤ p.place ∧ p.place < ss.length) (i : Nat) : ∀ n, n ≤ late.length →
    (settleN k late ss n).getD i default = ss.getD i default ∨ ∃ j, j < n ∧ (late.getD j default).place = (i : Int) ∧ (late.getD j default).text = (settleN k late ss n).getD i default
  | 0, _ => .inl rfl
  | n + 1, h => by
    have hm := hp _ (getD_mem (show n < late.length by omega))
    have hl := settleN_length k late ss n
    simp only [settleN]
    by_cases hk : k n = true
    · rw [if_pos hk, getD_set_text (by omega)]
      by_cases he : (late.getD n default).place.toNat = i
      · rw [if_pos he]
        exact .inr ⟨n, by omega, by omega, rfl⟩
      · rw [if_neg he]
        rcases settleN_at k late ss hp i n (by omega) with h1 | ⟨j, h1, h2, h3⟩
        · exact .inl h1
        · exact .inr ⟨j, by omega, h2, h3⟩
    · rw [if_neg hk]
      rcases settleN_at k late ss hp i n (by omega) with h1 | ⟨j, h1, h2, h3⟩
      · exact .inl h1
      · exact .inr ⟨j, by omega, h2, h3⟩
theorem settleN_lies (late : List Patch) (ss : List ByteArray) (hp : ∀ p ∈ late, 0 ≤ p.place ∧ p.place < ss.length) (a : Int) (ha : 0 ≤ a) : ∀ n, n ≤ late.length →
    (settleN (fun _ => true) late ss n).getD a.toNat default = liesN late a (ss.getD a.toNat default) n
  | 0, _ => rfl
  | n + 1, h => by
    have hm := hp _ (getD_mem (show n < late.length by omega))
    have hl := settleN_length (fun _ => true) late ss n
    simp only [settleN, if_true, liesN]
    rw [getD_set_text (by omega)]
    by_cases he : (late.getD n default).place = a
    · rw [if_pos he, if_pos (by omega)]
    · rw [if_neg he, if_neg (by omega)]
      exact settleN_lies late ss hp a ha n (by omega)
theorem Dev.barrier_lies {d : Dev} (h : d.ok = true) (a : Int) (h1 : 0 ≤ a) (h2 : a < d.secs.length) : d.barrier.lies a = d.lies a := by
  have hb := Dev.barrier_ok h
  have hl := settleN_length (fun _ => true) d.late d.secs d.late.length
  unfold Dev.barrier at hb ⊢
  rw [if_pos h] at hb ⊢
  have e1 : (d.settled fun _ => true).lies a = liesN (d.settled fun _ => true).late a ((d.settled fun _ => true).secs.getD a.toNat default) (d.settled fun _ => true).late.length := by
    unfold Dev.lies
    exact if_pos ⟨hb, h1, by simp only [Dev.settled]; omega⟩
  have e2 : d.lies a = liesN d.late a (d.secs.getD a.toNat default) d.late.length := by
    unfold Dev.lies
    exact if_pos ⟨h, h1, h2⟩
  rw [e1, e2]
  exact settleN_lies d.late d.secs (Dev.ok_places h) a h1 _ (Nat.le_refl _)
theorem Dev.cut_barrier {d : Dev} (h : d.ok = true) (l : List Bool) : d.barrier.cut l = d.barrier := by
  have hb := Dev.barrier_ok h
  unfold Dev.cut
  rw [if_pos hb]
  unfold Dev.barrier
  rw [if_pos h]
  rfl
/-- what is found of a text among the first patches -/
def foundN (late : List Patch) (i : Int) (y e : ByteArray) : Nat → Bool
  | 0 => decide (y = e)
  | j + 1 => if foundN late i y e j = true then true else decide ((late.getD j default).place = i) && decide ((late.getD j default).text = y)
theorem foundN_base {late : List Patch} {i : Int} {y e : ByteArray} (h : y = e) : ∀ n, foundN late i y e n = true
  | 0 => by simp [foundN, h]
  | n + 1 => by simp only [foundN, foundN_base h n, if_true]
theorem foundN_hit {late : List Patch} {i : Int} {y e : ByteArray} {j : Nat} (h1 : (late.getD j default).place = i) (h2 : (late.getD j default).text = y) : ∀ n, j < n → foundN late i y e n = true
  | 0, h => by omega
  | n + 1, h => by
    simp only [foundN]
    by_cases hj : j = n
    · subst hj
      simp only [h1, h2, decide_true, Bool.and_self, ite_self]
    · rw [foundN_hit h1 h2 n (by omega)]
      simp
theorem Dev.found {d : Dev} (h : d.ok = true) (l : List Bool) (i : Nat) : foundN d.late (i : Int) ((d.cut l).secs.getD i default) (d.secs.getD i default) d.late.length = true := by
  unfold Dev.cut
  rw [if_pos h]
  rcases settleN_at (fun i => l.getD i false) d.late d.secs (Dev.ok_places h) i d.late.length (Nat.le_refl _) with h1 | ⟨j, h1, h2, h3⟩
  · exact foundN_base h1 _
  · exact foundN_hit h2 h3 _ h1
def Dev.new (n : Int) : Dev × Bool := if 1 ≤ n ∧ n ≤ 16 then (⟨List.replicate n.toNat ByteArray.empty, []⟩, true) else (Dev.none, false)
theorem new_eq (n : Int) : (if 1 ≤ n ∧ n ≤ 16 then AVal.tup [(Dev.mk (List.replicate n.toNat ByteArray.empty) []).enc true, .lit (.bool true)] else .tup [Dev.none.enc true, .lit (.bool false)]) = .tup [(Dev.new n).1.enc true, .lit (.bool (Dev.new n).2)] := by
  unfold Dev.new
  split <;> rfl
theorem ok11b (n : Int) : VCalls gz 11 [.lit (.int .i64 n)] none (fun y _ => y = .tup [(Dev.new n).1.enc true, .lit (.bool (Dev.new n).2)]) := by
  have := ok11 n
  rwa [new_eq] at this
theorem ok20b (n : Int) : VCalls gz 20 [.lit (.int .i64 n)] none (fun y _ => y = .tup [(Dev.new n).1.enc true, .lit (.bool (Dev.new n).2)]) := by
  have := ok20 n
  rwa [new_eq] at this
attribute [go_sem] Dev.like_self bne_self_eq_false
end Go.VS
