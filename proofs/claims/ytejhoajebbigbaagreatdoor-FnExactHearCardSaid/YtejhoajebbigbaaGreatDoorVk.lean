/- VS: functions by the machine. -/
import Derived.Test.YtejhoajebbigbaaGreatDoorVj
import Derived.Test.YtejhoajebbigbaaGreatDoorVf
import Derived.Test.YtejhoajebbigbaaGreatDoorVg
import Derived.Test.YtejhoajebbigbaaGreatDoorVh
import Derived.Test.YtejhoajebbigbaaGreatDoorVn
set_option linter.unusedSimpArgs false
set_option linter.unusedVariables false
open Go.Proofs
set_option maxRecDepth 20000
namespace Go.VS
theorem f85_at : gz.P.funcs[85]? = some Tryz.f85 := by
 have h : Tryz.prog.funcs[85]? = some Tryz.f85 := by kernel_rfl
 exact h
theorem f88_at : gz.P.funcs[88]? = some Tryz.f88 := by
 have h : Tryz.prog.funcs[88]? = some Tryz.f88 := by kernel_rfl
 exact h
theorem f112_at : gz.P.funcs[112]? = some Tryz.f112 := by
 have h : Tryz.prog.funcs[112]? = some Tryz.f112 := by kernel_rfl
 exact h
theorem f116_at : gz.P.funcs[116]? = some Tryz.f116 := by
 have h : Tryz.prog.funcs[116]? = some Tryz.f116 := by kernel_rfl
 exact h
theorem f84_at : gz.P.funcs[84]? = some Tryz.f84 := by
 have h : Tryz.prog.funcs[84]? = some Tryz.f84 := by kernel_rfl
 exact h
theorem f87_at : gz.P.funcs[87]? = some Tryz.f87 := by
 have h : Tryz.prog.funcs[87]? = some Tryz.f87 := by kernel_rfl
 exact h
theorem ok112 (xs : List Vot) (f : Nat) (caps : List AVal) (p : Vot -> Bool) (hc : shdAs caps = true) (hg : caps.all (fun x => !isAggA x) = true) (hf : ∀ x ∈ xs, VCalls gz f (Vot.enc x :: caps) none (fun y _ => y = .lit (.bool (p x)))) :
  VCalls gz 112 [.lst false 4 (xs.map Vot.enc), .fn f caps] none (fun y _ => y = .lit (.int .i64 (idxOf p xs))) := by
 refine VCalls.go (nt := 19) (keep := [0, 1, 4, 5, 7, 8, 9, 16]) (muts := []) (mvs := []) [] f112_at rfl (by kernel_rfl) rfl (by kernel_rfl) rfl (fun i h => by cases h) rfl ?_
 intro hok
 simp only [go_sem] at hok
 simp only [Tryz.f112, Func.code, Option.getD_some]
 simp only [go_sem]
 simp only [go_sem, shds_kill _ hc, shds_copy _ _ _ hc]
 intro hl
 refine vm_loopK (α := Nat) (fun i => [(0, .lst false 4 (xs.map Vot.enc)), (1, .fn f caps), (4, .lit (.int .i64 0)), (7, .lit (.int .i64 xs.length)), (8, .lit (.int .i64 i))]) (fun i => i <= xs.length /\ ∀ x ∈ xs.take i, p x = false) (fun i => xs.length - i) 0 ?_ ⟨by omega, by simp⟩ (by kernel_rfl) (fun _ => rfl) ?_
 ·simp only [go_sem]
  trivial
 ·intro i hi _
  simp only [go_sem]
  first | refine branch_ndec (fun h => ?_) (fun h => ?_) | refine branch_dec (fun h => ?_) (fun h => ?_) | refine branch_nbool (fun h => ?_) (fun h => ?_) | refine branch_split (fun h => ?_) (fun h => ?_)
  ·have hlt : i < xs.length := by omega
   simp only [go_sem, shds_kill _ hc, shds_copy _ _ _ hc]
   refine ⟨by omega, by omega, hlt, hg, ?_⟩
   refine call_lend ?_
   simp only [go_sem, shds_snap _ hc]
   refine callN.eq (hf _ (getD_mem hlt)) (by simp only [go_sem]) ?_
   simp only [go_sem, shds_kill _ hc, shds_copy _ _ _ hc]
   have hget : xs.getD i default = xs[i] := by simp [List.getD, List.getElem?_eq_getElem hlt]
   rw [hget]
   refine branch_split (fun h2 => ?_) (fun h2 => ?_)
   ·simp only [go_sem, shds_kill _ hc, shds_copy _ _ _ hc]
    exact (idxOf_hit hi.2 hlt h2).symm
   ·simp only [go_sem, shds_kill _ hc, shds_copy _ _ _ hc]
    simp (disch := omega) only [wrap64, wrapU64, wrapU32, wrapU8]
    refine again_intro (i + 1) ⟨by omega, ?_⟩ (by omega) ?_
    ·intro x hx
     rw [take_succ_getD hlt, List.mem_append, hget] at hx
     rcases hx with hx | hx
     ·exact hi.2 x hx
     ·simp only [List.mem_singleton] at hx
      rw [hx]
      exact h2
    ·simp only [go_sem]
     omega
  ·simp only [go_sem]
   have hie : i = xs.length := by omega
   refine (idxOf_none ?_).symm
   have := hi.2
   rwa [hie, List.take_length] at this
theorem ok116 (xs : List Nws) (f : Nat) (caps : List AVal) (p : Nws -> Bool) (hc : shdAs caps = true) (hg : caps.all (fun x => !isAggA x) = true) (hf : ∀ x ∈ xs, VCalls gz f (Nws.enc x :: caps) none (fun y _ => y = .lit (.bool (p x)))) :
  VCalls gz 116 [.lst false 2 (xs.map Nws.enc), .fn f caps] none (fun y _ => y = .lit (.int .i64 (idxOf p xs))) := by
 refine VCalls.go (nt := 19) (keep := [0, 1, 4, 5, 7, 8, 9, 16]) (muts := []) (mvs := []) [] f116_at rfl (by kernel_rfl) rfl (by kernel_rfl) rfl (fun i h => by cases h) rfl ?_
 intro hok
 simp only [go_sem] at hok
 simp only [Tryz.f116, Func.code, Option.getD_some]
 simp only [go_sem]
 simp only [go_sem, shds_kill _ hc, shds_copy _ _ _ hc]
 intro hl
 refine vm_loopK (α := Nat) (fun i => [(0, .lst false 2 (xs.map Nws.enc)), (1, .fn f caps), (4, .lit (.int .i64 0)), (7, .lit (.int .i64 xs.length)), (8, .lit (.int .i64 i))]) (fun i => i <= xs.length /\ ∀ x ∈ xs.take i, p x = false) (fun i => xs.length - i) 0 ?_ ⟨by omega, by simp⟩ (by kernel_rfl) (fun _ => rfl) ?_
 ·simp only [go_sem]
  trivial
 ·intro i hi _
  simp only [go_sem]
  first | refine branch_ndec (fun h => ?_) (fun h => ?_) | refine branch_dec (fun h => ?_) (fun h => ?_) | refine branch_nbool (fun h => ?_) (fun h => ?_) | refine branch_split (fun h => ?_) (fun h => ?_)
  ·have hlt : i < xs.length := by omega
   simp only [go_sem, shds_kill _ hc, shds_copy _ _ _ hc]
   refine ⟨by omega, by omega, hlt, hg, ?_⟩
   refine call_lend ?_
   simp only [go_sem, shds_snap _ hc]
   refine callN.eq (hf _ (getD_mem hlt)) (by simp only [go_sem]) ?_
   simp only [go_sem, shds_kill _ hc, shds_copy _ _ _ hc]
   have hget : xs.getD i default = xs[i] := by simp [List.getD, List.getElem?_eq_getElem hlt]
   rw [hget]
   refine branch_split (fun h2 => ?_) (fun h2 => ?_)
   ·simp only [go_sem, shds_kill _ hc, shds_copy _ _ _ hc]
    exact (idxOf_hit hi.2 hlt h2).symm
   ·simp only [go_sem, shds_kill _ hc, shds_copy _ _ _ hc]
    simp (disch := omega) only [wrap64, wrapU64, wrapU32, wrapU8]
    refine again_intro (i + 1) ⟨by omega, ?_⟩ (by omega) ?_
    ·intro x hx
     rw [take_succ_getD hlt, List.mem_append, hget] at hx
     rcases hx with hx | hx
     ·exact hi.2 x hx
     ·simp only [List.mem_singleton] at hx
      rw [hx]
      exact h2
    ·simp only [go_sem]
     omega
  ·simp only [go_sem]
   have hie : i = xs.length := by omega
   refine (idxOf_none ?_).symm
   have := hi.2
   rwa [hie, List.take_length] at this
theorem ok84 (xs : List Vot) (f : Nat) (caps : List AVal) (p : Vot -> Bool) (hc : shdAs caps = true) (hg : caps.all (fun x => !isAggA x) = true) (hf : ∀ x ∈ xs, VCalls gz f (Vot.enc x :: caps) none (fun y _ => y = .lit (.bool (p x)))) :
  VCalls gz 84 [.lst false 4 (xs.map Vot.enc), .fn f caps] none (fun y _ => y = .lit (.bool (xs.any p))) := by
 refine VCalls.go (nt := 9) (keep := [0, 1, 4]) (muts := []) (mvs := []) [] f84_at rfl (by kernel_rfl) rfl (by kernel_rfl) rfl (fun i h => by cases h) rfl ?_
 intro hok
 simp only [go_sem] at hok
 simp only [Tryz.f84, Func.code, Option.getD_some]
 simp only [go_sem]
 simp only [go_sem, shds_kill _ hc, shds_copy _ _ _ hc]
 refine call_lend ?_
 simp only [go_sem, shds_snap _ hc]
 refine callN.eq (ok112 xs f caps p hc hg hf) (by simp only [go_sem]) ?_
 simp only [go_sem, shds_kill _ hc, shds_copy _ _ _ hc]
 simp only [idxOf_nonneg, Bool.decide_eq_true]
theorem ok87 (xs : List Nws) (f : Nat) (caps : List AVal) (p : Nws -> Bool) (hc : shdAs caps = true) (hg : caps.all (fun x => !isAggA x) = true) (hf : ∀ x ∈ xs, VCalls gz f (Nws.enc x :: caps) none (fun y _ => y = .lit (.bool (p x)))) :
  VCalls gz 87 [.lst false 2 (xs.map Nws.enc), .fn f caps] none (fun y _ => y = .lit (.bool (xs.any p))) := by
 refine VCalls.go (nt := 9) (keep := [0, 1, 4]) (muts := []) (mvs := []) [] f87_at rfl (by kernel_rfl) rfl (by kernel_rfl) rfl (fun i h => by cases h) rfl ?_
 intro hok
 simp only [go_sem] at hok
 simp only [Tryz.f87, Func.code, Option.getD_some]
 simp only [go_sem]
 simp only [go_sem, shds_kill _ hc, shds_copy _ _ _ hc]
 refine call_lend ?_
 simp only [go_sem, shds_snap _ hc]
 refine callN.eq (ok116 xs f caps p hc hg hf) (by simp only [go_sem]) ?_
 simp only [go_sem, shds_kill _ hc, shds_copy _ _ _ hc]
 simp only [idxOf_nonneg, Bool.decide_eq_true]
theorem ok85 (v : Vot) (r : Rpl) : VCalls gz 85 [v.enc, .ptr false (r.enc false)] none (fun y _ => y = .lit (.bool (!v.ok r.n))) := by
 refine VCalls.go (nt := 9) (keep := [0, 1, 2, 3]) (muts := []) (mvs := []) [] f85_at rfl (by kernel_rfl) rfl (by kernel_rfl) rfl (fun i h => by cases h) rfl ?_
 intro hok
 simp only [go_sem] at hok
 simp only [Tryz.f85, Func.code, Option.getD_some]
 simp only [go_sem]
 refine call_lend ?_
 simp only [go_sem]
 refine callN.eq (ok86 v r.n) (by simp only [go_sem]) ?_
 simp only [go_sem]
theorem ok88 (x : Nws) (r : Rpl) (hs : srv r.n = true) : VCalls gz 88 [x.enc, .ptr false (r.enc false)] none (fun y _ => y = .lit (.bool (!nwOk r.n x))) := by
 refine VCalls.go (nt := 17) (keep := [0, 1, 2, 3]) (muts := []) (mvs := []) [] f88_at rfl (by kernel_rfl) rfl (by kernel_rfl) rfl (fun i h => by cases h) rfl ?_
 intro hok
 simp only [go_sem] at hok
 simp only [Tryz.f88, Func.code, Option.getD_some]
 simp only [go_sem]
 have hn := srv_iff.1 hs
 have hw : IntKind.i64.wrap (r.n - 1) = r.n - 1 := wrap64 (by omega) (by omega)
 simp only [go_sem, hw]
 refine call_lend ?_
 simp only [go_sem]
 refine callN.eq (ok77 x.src 0 (r.n - 1)) (by simp only [go_sem]) ?_
 simp only [go_sem]
 by_cases h1 : 0 <= x.src /\ x.src <= r.n - 1
 rotate_left
 ·simp only [go_sem, eq_false h1]
  rw [nwOk, decide_eq_false h1]
  rfl
 simp only [go_sem, eq_true h1]
 refine call_lend ?_
 simp only [go_sem]
 refine callN.eq (ok78 x.view) (by simp only [go_sem]) ?_
 simp only [go_sem]
 rw [nwOk, decide_eq_true h1, Bool.true_and, decide_not]
end Go.VS
set_option linter.unusedSimpArgs false
set_option linter.unusedVariables false
open Go.Proofs
set_option maxRecDepth 20000
namespace Go.VS
theorem numB_ne (n : Nat) : numB n ≠ [] := by
 unfold numB
 split <;> simp
theorem Vot.ok_of {v : Vot} {n : Int} (h : v.ok n = true) : (n = 1 \/ n = 4 \/ n = 7) /\ (0 <= v.bY /\ v.bY <= n - 1) /\ (1 <= v.view /\ v.view <= 100000) /\ (0 <= v.name /\ v.name <= 2147483646) /\ v.tag = tagV v.bY (balB v.view v.name) := by
 simp only [Vot.ok, Bool.and_eq_true, decide_eq_true_eq] at h
 exact ⟨srv_iff.1 h.1, h.2.1, h.2.2.1, h.2.2.2.1, h.2.2.2.2⟩
theorem Prf.few {p : Prf} {n : Int} (h : ∀ j, j < p.bys.length -> p.rnd n j = true) : ∀ i, i < p.bys.length -> (i : Int) <= p.bys.getD i default
 | 0, hi => (Prf.rnd_view (h 0 hi)).2.2.1
 | i + 1, hi => by
  have ih := Prf.few h i (by omega)
  have h1 := h (i + 1) hi
  simp only [Prf.rnd, Bool.and_eq_true, Bool.not_eq_true', Bool.and_eq_false_iff, decide_eq_false_iff_not] at h1
  have h2 := h1.2
  simp only [Nat.add_sub_cancel] at h2
  rcases h2 with h2 | h2 <;> omega
theorem Prf.ok_nums {p : Prf} {n : Int} (h : p.ok n = true) : p.bys.length <= 7 /\ p.bys.length = p.tags.length /\ inR p.view /\ inR p.name /\ ∀ j, j < p.bys.length -> inR (p.bys.getD j default) /\ inR (p.tags.getD j default) := by
 obtain ⟨hs, h1 | ⟨hl, hr⟩⟩ := Prf.ok_cases h
 ·simp only [Prf.one, decide_eq_true_eq] at h1
  obtain ⟨h2, h3, h4, h5⟩ := h1
  unfold inR
  refine ⟨by omega, by omega, by omega, by omega, fun j hj => by omega⟩
 ·have h0 := Prf.len_pos hs hl
  have hn := srv_iff.1 hs
  have h7 : p.bys.length <= 7 := by
   have h1 := Prf.few hr (p.bys.length - 1) (by omega)
   have h2 := (Prf.rnd_view (hr (p.bys.length - 1) (by omega))).2.2.2
   omega
  have h8 := Prf.rnd_view (hr 0 h0)
  refine ⟨h7, hl.2, ⟨by omega, by omega⟩, ⟨by omega, by omega⟩, fun j hj => ?_⟩
  have h9 := Prf.rnd_view (hr j hj)
  have h10 := hr j hj
  simp only [Prf.rnd, Bool.and_eq_true] at h10
  have h11 := (Vot.ok_of h10.1).2.2.2.2
  have h12 := tagV_rng (p.bys.getD j default) (balB p.view p.name)
  simp only at h11
  refine ⟨⟨by omega, by omega⟩, ⟨by omega, by omega⟩⟩
theorem txs_ne {l : List ByteArray} (h : movesOk l = true) : txs l ≠ [] := by
 simp only [movesOk, Bool.and_eq_true, decide_eq_true_eq, Bool.not_eq_true', List.any_eq_false] at h
 have h1 : txs l = txsN l l.length := txsOk_all (by omega) fun j hj => by
  have := h.2 _ (getD_mem hj)
  simp only [mvB, decide_eq_true_eq] at this
  omega
 rw [h1, txsN]
 intro h2
 exact numB_ne _ (List.append_eq_nil_iff.1 h2).1
theorem Blk.ok_of {b : Blk} {n : Int} (h : b.ok n = true) : b.proof.ok n = true /\ (1 <= b.view /\ b.view <= 100000) /\ b.proof.view < b.view /\ b.parent = b.proof.name /\ b.bY = b.view.tmod n /\ movesOk b.moves = true := by
 simp only [Blk.ok, Bool.and_eq_true, decide_eq_true_eq] at h
 exact ⟨h.1, h.2.1, h.2.2.1, h.2.2.2.1, h.2.2.2.2.1, h.2.2.2.2.2⟩
theorem Blk.ok_sh {b : Blk} {n : Int} (h : b.ok n = true) : b.shOk := by
 obtain ⟨h1, h2, h3, h4, h5, h6⟩ := Blk.ok_of h
 obtain ⟨k1, k2, k3, k4, k5⟩ := Prf.ok_nums h1
 refine ⟨⟨k1, k2⟩, ?_, txs_ne h6, ?_⟩
 ·have : ∀ i, i <= b.proof.bys.length -> ∀ x ∈ shL b i, inR x := by
   intro i
   induction i with
   | zero =>
    intro _ x hx
    rw [shL_zero] at hx
    simp only [List.mem_cons, List.not_mem_nil, or_false] at hx
    rcases hx with rfl | rfl | rfl | rfl | rfl
    ·exact ⟨by omega, by omega⟩
    ·rw [h4]; exact k4
    ·exact k3
    ·exact k4
    ·exact ⟨by omega, by omega⟩
   | succ i ih =>
    intro hi x hx
    rw [shL_succ] at hx
    rcases List.mem_append.1 hx with hx | hx
    ·exact ih (by omega) x hx
    ·simp only [List.mem_cons, List.not_mem_nil, or_false] at hx
     rcases hx with rfl | rfl
     ·exact (k5 i (by omega)).1
     ·exact (k5 i (by omega)).2
  exact this _ (Nat.le_refl _)
 ·have hn := srv_iff.1 (Prf.ok_cases h1).1
  rw [h5]
  have h7 := Int.tmod_lt_of_pos b.view (b := n) (by omega)
  have h8 := Int.tmod_nonneg n (a := b.view) (by omega)
  exact ⟨by omega, by omega⟩
theorem Blk.sh_size {b : Blk} (h : b.shOk) : b.sh.size ≠ 0 := by
 rw [Blk.sh_yes h]
 have : b.shB ≠ [] := fun h2 => h.2.2.1 ((List.append_eq_nil_iff.1 (List.append_eq_nil_iff.1 h2).1).2)
 intro h3
 apply this
 apply List.eq_nil_of_length_eq_zero
 simpa [ByteArray.size] using h3
def Blk.nmI (b : Blk) : Int := if b.sh.size = 0 then -1 else b.nm
theorem Blk.nmI_eq {b : Blk} {n : Int} (h : b.ok n = true) : b.nmI = b.nm := if_neg (Blk.sh_size (Blk.ok_sh h))
def Rpl.pty (r : Rpl) : Pty := ⟨r, r.blocks.map Blk.nmI, []⟩
def Rpl.okI (r : Rpl) : Bool := r.hd && (r.hd2 && ((r.pty.bkOk && ((r.high.one || decide (0 <= r.pty.has r.high.name r.high.view)) && r.pty.dnOk)) && (r.votes.all (fun v => v.ok r.n) && r.news.all (nwOk r.n))))
section
variable {r : Rpl}
theorem getD_map {α β : Type} [Inhabited α] [Inhabited β] {f : α -> β} {xs : List α} {i : Nat} (h : i < xs.length) : (xs.map f).getD i default = f (xs.getD i default) := by
 simp [List.getD, h]
theorem Rpl.names_eq (h : ∀ i, i < r.blocks.length -> (r.blocks.getD i default).ok r.n = true) : r.blocks.map Blk.nmI = r.blocks.map Blk.nm :=
 List.map_congr_left fun b hb => by
  obtain ⟨j, hj, rfl⟩ := List.mem_iff_getElem.1 hb
  rw [getElem_D hj]
  exact Blk.nmI_eq (h j hj)
theorem idxOf_first {xs : List Int} {n : Int} {i : Nat} (hi : i < xs.length) : idxOf (isI n) xs = (i : Int) ↔ xs.getD i default = n /\ ∀ k, k < i -> xs.getD k default ≠ n := by
 constructor
 ·intro h
  have h1 : xs.any (isI n) = true := idxOf_nonneg.1 (by omega)
  simp only [idxOf, h1, if_true] at h
  have h2 : xs.findIdx (isI n) = i := by omega
  have h3 := (List.findIdx_eq (p := isI n) hi).1 h2
  refine ⟨?_, fun k hk => ?_⟩
  ·have := h3.1
   rw [getElem_D hi] at this
   simp only [isI, decide_eq_true_eq] at this
   exact this.symm
  ·have := h3.2 k hk
   rw [getElem_D (by omega)] at this
   simp only [isI, decide_eq_false_iff_not] at this
   exact fun h => this h.symm
 ·rintro ⟨h1, h2⟩
  refine idxOf_hit (fun x hx => ?_) hi ?_
  ·obtain ⟨j, hj, rfl⟩ := List.mem_iff_getElem.1 hx
   rw [List.length_take] at hj
   rw [List.getElem_take, getElem_D (by omega)]
   have := h2 j (by omega)
   simp only [isI, decide_eq_false_iff_not]
   exact fun h => this h.symm
  ·rw [getElem_D hi, h1]
   simp [isI]
def Rpl.apart (r : Rpl) : Prop := ∀ i k, i < r.blocks.length -> k < i -> (r.blocks.getD k default).nm ≠ (r.blocks.getD i default).nm
theorem Rpl.apart_eq (h : r.apart) {i k : Nat} (hi : i < r.blocks.length) (hk : k < r.blocks.length) (he : (r.blocks.getD k default).nm = (r.blocks.getD i default).nm) : k = i := by
 rcases Nat.lt_trichotomy k i with h1 | h1 | h1
 ·exact absurd he (h i k hi h1)
 ·exact h1
 ·exact absurd he.symm (h k i hk h1)
section
variable (hb : ∀ i, i < r.blocks.length -> (r.blocks.getD i default).ok r.n = true)
include hb
theorem Rpl.fnd_at {i : Nat} (hi : i < r.blocks.length) {n : Int} : r.pty.fnd n = (i : Int) ↔ (r.blocks.getD i default).nm = n /\ ∀ k, k < i -> (r.blocks.getD k default).nm ≠ n := by
 unfold Pty.fnd Rpl.pty
 simp only
 rw [Rpl.names_eq hb, idxOf_first (by simpa using hi), getD_map hi]
 refine and_congr .rfl ⟨fun h k hk => ?_, fun h k hk => ?_⟩
 ·have := h k hk
  rwa [getD_map (by omega)] at this
 ·have := h k hk
  rwa [getD_map (by omega)]
theorem Rpl.fnd_of (ha : r.apart) {i : Nat} (hi : i < r.blocks.length) : r.pty.fnd (r.blocks.getD i default).nm = (i : Int) :=
 (Rpl.fnd_at hb hi).2 ⟨rfl, fun k hk => ha i k hi hk⟩
theorem Rpl.fnd_name {n : Int} (h : 0 <= r.pty.fnd n) : ∃ i, i < r.blocks.length /\ r.pty.fnd n = (i : Int) /\ (r.blocks.getD i default).nm = n := by
 obtain ⟨i, hi⟩ := Int.eq_ofNat_of_zero_le h
 have hr := (idxOf_rng (isI n) r.pty.names).2
 have hl : r.pty.names.length = r.blocks.length := by simp [Rpl.pty]
 have hd : r.pty.fnd n = idxOf (isI n) r.pty.names := rfl
 have hil : i < r.blocks.length := by omega
 exact ⟨i, hil, hi, ((Rpl.fnd_at hb hil).1 hi).1⟩
theorem Rpl.has_any (ha : r.apart) {n v : Int} {m : Nat} (hm : m <= r.blocks.length) : (0 <= r.pty.has n v /\ r.pty.has n v < (m : Int)) ↔ (r.blocks.take m).any (fndP n v) = true := by
 rw [List.any_eq_true]
 constructor
 ·rintro ⟨h1, h2⟩
  unfold Pty.has at h1 h2
  split at h1
  ·omega
  ·rename_i hc
   rw [if_neg hc] at h2
   obtain ⟨i, hi, he, hn⟩ := Rpl.fnd_name hb h1
   refine ⟨r.blocks.getD i default, ?_, ?_⟩
   ·rw [<- getElem_D hi]
    rw [List.mem_take_iff_getElem]
    exact ⟨i, by omega, rfl⟩
   ·simp only [fndP, Bool.and_eq_true, decide_eq_true_eq]
    refine ⟨?_, hn⟩
    have h3 : ¬ ¬ (r.blocks.getD (r.pty.fnd n).toNat default).view = v := fun h => hc ⟨h1, h⟩
    rw [he, Int.toNat_natCast] at h3
    exact Decidable.of_not_not h3
 ·rintro ⟨b, hbm, hp⟩
  obtain ⟨i, hi, rfl⟩ := List.mem_take_iff_getElem.1 hbm
  have hil : i < r.blocks.length := by omega
  rw [getElem_D hil] at hp
  simp only [fndP, Bool.and_eq_true, decide_eq_true_eq] at hp
  have h1 := Rpl.fnd_of hb ha hil
  rw [hp.2] at h1
  have h2 : r.pty.has n v = (i : Int) := by
   unfold Pty.has
   rw [h1, Int.toNat_natCast]
   have : (r.pty.r.blocks.getD i default).view = v := hp.1
   rw [if_neg (fun h => h.2 this)]
  rw [h2]
  omega
theorem Rpl.knw_eq (ha : r.apart) {i : Nat} (hi : i < r.blocks.length) : r.pty.knw (r.blocks.getD i default) i = knwB (r.blocks.take i) (r.blocks.getD i default).proof := by
 have h1 := (Blk.ok_of (hb i hi)).2.2.2.1
 have h2 := Rpl.has_any hb ha (n := (r.blocks.getD i default).proof.name) (v := (r.blocks.getD i default).proof.view) (m := i) (by omega)
 unfold Pty.knw knwB
 rw [h1]
 have e1 : (decide ((r.blocks.getD i default).proof.name = 0) && (r.blocks.getD i default).proof.one) = (r.blocks.getD i default).proof.one := by
  cases h : (r.blocks.getD i default).proof.one
  ·simp
  ·simp only [Prf.one, decide_eq_true_eq] at h
   rw [decide_eq_true h.2.1]
   rfl
 rw [e1]
 congr 1
 rw [Bool.eq_iff_iff, Bool.and_eq_true, decide_eq_true_eq, decide_eq_true_eq]
 exact h2
theorem Rpl.high_eq (ha : r.apart) : (r.high.one || decide (0 <= r.pty.has r.high.name r.high.view)) = knwB r.blocks r.high := by
 unfold knwB
 congr 1
 rw [Bool.eq_iff_iff, decide_eq_true_eq]
 have h := Rpl.has_any hb ha (n := r.high.name) (v := r.high.view) (m := r.blocks.length) (Nat.le_refl _)
 rw [List.take_length] at h
 rw [<- h]
 refine ⟨fun h1 => ⟨h1, ?_⟩, fun h1 => h1.1⟩
 unfold Pty.has at h1 ⊢
 split
 ·omega
 ·rename_i hc
  rw [if_neg hc] at h1
  obtain ⟨i, hi, he, _⟩ := Rpl.fnd_name hb h1
  omega
end
theorem lastN_one {p : Blk -> Bool} {xs : List Blk} {i : Nat} (hp : p (xs.getD i default) = true) (hu : ∀ k, k < xs.length -> p (xs.getD k default) = true -> k = i) : ∀ m, i < m -> m <= xs.length -> lastN p xs m = (i : Int)
 | 0, h, _ => by omega
 | m + 1, h, hm => by
  unfold lastN
  by_cases hmi : m = i
  ·subst hmi
   rw [if_pos hp]
  ·rw [if_neg (fun h2 => hmi (hu m (by omega) h2))]
   exact lastN_one hp hu m (by omega) (by omega)
theorem lastN_hit {p : Blk -> Bool} {xs : List Blk} : ∀ m, m <= xs.length -> 0 <= lastN p xs m -> ∃ i, i < xs.length /\ lastN p xs m = (i : Int) /\ p (xs.getD i default) = true
 | 0, _, h => by simp [lastN] at h
 | m + 1, hm, h => by
  unfold lastN at h ⊢
  split
  ·rename_i hp
   exact ⟨m, by omega, rfl, hp⟩
  ·rename_i hp
   rw [if_neg hp] at h
   exact lastN_hit m (by omega) h
def Rpl.dnI (r : Rpl) (i : Nat) (v : Int) : Prop := (i = 0 /\ v = 0) \/ ∃ m, m < r.blocks.length /\ (r.blocks.getD m default).nm = r.pty.par i /\ (r.blocks.getD m default).view = v
section
variable (hb : ∀ i, i < r.blocks.length -> (r.blocks.getD i default).ok r.n = true) (ha : r.apart) (hk : ∀ i, i < r.blocks.length -> knwB (r.blocks.take i) (r.blocks.getD i default).proof = true)
include hb ha hk
theorem Rpl.dn_view {i m : Nat} {v : Int} (hI : r.dnI i v) (hm : m < r.blocks.length) (hp : (r.blocks.getD m default).parent = r.pty.par i) : (r.blocks.getD m default).proof.view = v := by
 have h1 := (Blk.ok_of (hb m hm)).2.2.2.1
 have h2 := hk m hm
 have hnm : ∀ k, 1 <= (r.blocks.getD k default).nm := fun k => (Blk.nm_rng _).1
 simp only [knwB, Bool.or_eq_true] at h2
 rcases hI with ⟨rfl, rfl⟩ | ⟨m', hm', h3, h4⟩
 ·have h5 : r.pty.par 0 = 0 := rfl
  rcases h2 with h2 | h2
  ·simp only [Prf.one, decide_eq_true_eq] at h2
   exact h2.1
  ·obtain ⟨b, hbm, hq⟩ := List.any_eq_true.1 h2
   simp only [fndP, Bool.and_eq_true, decide_eq_true_eq] at hq
   have := (Blk.nm_rng b).1
   omega
 ·have h5 := hnm m'
  rcases h2 with h2 | h2
  ·simp only [Prf.one, decide_eq_true_eq] at h2
   omega
  ·obtain ⟨b, hbm, hq⟩ := List.any_eq_true.1 h2
   obtain ⟨k, hk2, rfl⟩ := List.mem_take_iff_getElem.1 hbm
   have hkl : k < r.blocks.length := by omega
   rw [getElem_D hkl] at hq
   simp only [fndP, Bool.and_eq_true, decide_eq_true_eq] at hq
   have : k = m' := Rpl.apart_eq ha hm' hkl (by rw [hq.2, h3, <- hp, h1])
   subst this
   rw [<- h4, hq.1]
theorem Rpl.dn_step {i : Nat} {v : Int} (hI : r.dnI i v) :
  (r.pty.dnR i = true -> ∃ v', dnS r.blocks (r.done.getD i default) (some (r.pty.par i, v)) = some (r.pty.par (i + 1), v') /\ r.dnI (i + 1) v') ∧
  (r.pty.dnR i = false -> dnS r.blocks (r.done.getD i default) (some (r.pty.par i, v)) = none) := by
 constructor
 ·intro h
  simp only [Pty.dnR, Bool.and_eq_true, decide_eq_true_eq] at h
  obtain ⟨h1, h2⟩ := h
  obtain ⟨m, hm, he, hn⟩ := Rpl.fnd_name hb (r := r) (n := r.done.getD i default) h1
  have h3 : r.pty.fnd (r.pty.r.done.getD i default) = (m : Int) := he
  rw [h3, Int.toNat_natCast] at h2
  have h4 : (r.blocks.getD m default).parent = r.pty.par i := h2
  have h5 := Rpl.dn_view hb ha hk hI hm h4
  have h6 := lastN_one (p := lnkP (r.done.getD i default) (r.pty.par i) v) (xs := r.blocks) (i := m) (by simp only [lnkP, hn, h4, h5, decide_true, Bool.and_self]) (fun k hk2 hp => by
   simp only [lnkP, Bool.and_eq_true, decide_eq_true_eq] at hp
   exact Rpl.apart_eq ha hm hk2 (by rw [hp.1, hn])) r.blocks.length hm (Nat.le_refl _)
  refine ⟨(r.blocks.getD m default).view, ?_, .inr ⟨m, hm, hn, rfl⟩⟩
  unfold dnS
  simp only [h6, Int.toNat_natCast]
  rw [if_neg (by omega)]
  rfl
 ·intro h
  unfold dnS
  simp only
  by_cases h1 : lastN (lnkP (r.done.getD i default) (r.pty.par i) v) r.blocks r.blocks.length < 0
  ·rw [if_pos h1]
  ·exfalso
   have h9 : 0 <= lastN (lnkP (r.done.getD i default) (r.pty.par i) v) r.blocks r.blocks.length := by omega
   obtain ⟨m, hm, he, hp⟩ := lastN_hit _ (Nat.le_refl _) h9
   simp only [lnkP, Bool.and_eq_true, decide_eq_true_eq] at hp
   have h2 := Rpl.fnd_of hb ha hm
   rw [hp.1] at h2
   have h3 : r.pty.fnd (r.pty.r.done.getD i default) = (m : Int) := h2
   have h4 : (r.pty.r.blocks.getD m default).parent = r.pty.par i := hp.2.1
   rw [Pty.dnR, h3, Int.toNat_natCast, decide_eq_true h4, decide_eq_true (by omega)] at h
   cases h
theorem Rpl.dn_all : ∀ i, i <= r.done.length -> (∃ v, dnN r.blocks r.done i = some (r.pty.par i, v) /\ r.dnI i v /\ ∀ j, j < i -> r.pty.dnR j = true) \/ (dnN r.blocks r.done i = none /\ ∃ j, j < i /\ r.pty.dnR j = false)
 | 0, _ => .inl ⟨0, rfl, .inl ⟨rfl, rfl⟩, fun j hj => by omega⟩
 | i + 1, hi => by
  rcases Rpl.dn_all i (by omega) with ⟨v, h1, h2, h3⟩ | ⟨h1, j, hj, h2⟩
  ·have h4 := Rpl.dn_step hb ha hk h2
   cases h : r.pty.dnR i
   ·exact .inr ⟨by rw [dnN, h1]; exact h4.2 h, i, by omega, h⟩
   ·obtain ⟨v', h5, h6⟩ := h4.1 h
    exact .inl ⟨v', by rw [dnN, h1]; exact h5, h6, nx h3 h⟩
  ·exact .inr ⟨by rw [dnN, h1]; rfl, j, by omega, h2⟩
theorem Rpl.dn_eq : r.pty.dnOk = dnB r.blocks r.done := by
 unfold dnB
 rcases Rpl.dn_all hb ha hk r.done.length (Nat.le_refl _) with ⟨v, h1, _, h3⟩ | ⟨h1, j, hj, h2⟩
 ·rw [h1]
  exact List.all_eq_true.2 fun x hx => h3 x (List.mem_range.1 hx)
 ·rw [h1]
  exact Pty.dn_bad (p := r.pty) hj h2
end
theorem Rpl.bkR_eq (hb : ∀ i, i < r.blocks.length -> (r.blocks.getD i default).ok r.n = true) (ha : r.apart) {i : Nat} (hi : i < r.blocks.length) : r.pty.bkR i = r.bk i := by
 have h1 : r.pty.names.getD i default = (r.blocks.getD i default).nm := by
  show (r.blocks.map Blk.nmI).getD i default = _
  rw [Rpl.names_eq hb, getD_map hi]
 have h2 : ((List.range i).all fun k => !decide ((r.blocks.getD k default).nm = (r.blocks.getD i default).nm)) = true := List.all_eq_true.2 fun k hk => by
  rw [decide_eq_false (ha i k hi (List.mem_range.1 hk))]
  rfl
 rw [Pty.bkR, h1, Rpl.fnd_of hb ha hi, Rpl.bk, h2, Bool.and_true, decide_eq_true rfl, Bool.true_and]
 have h3 := Rpl.knw_eq hb ha hi
 exact congrArg (fun x => (r.blocks.getD i default).ok r.n && x) h3
theorem range_all {n : Nat} {f : Nat -> Bool} : (List.range n).all f = true ↔ ∀ i, i < n -> f i = true := by
 simp only [List.all_eq_true, List.mem_range]
theorem range_all_congr {n : Nat} {f g : Nat -> Bool} (h : ∀ i, i < n -> f i = g i) : (List.range n).all f = (List.range n).all g := by
 rw [Bool.eq_iff_iff, range_all, range_all]
 exact ⟨fun k i hi => (h i hi) ▸ k i hi, fun k i hi => (h i hi).symm ▸ k i hi⟩
theorem Rpl.law (r : Rpl) : r.okI = r.ok := by
 unfold Rpl.okI Rpl.ok
 congr 1
 cases h2 : r.hd2
 ·rfl
 have h60 : r.blocks.length <= 60 := by
  simp only [Rpl.hd2, Bool.and_eq_true, decide_eq_true_eq] at h2
  exact h2.2.1
 have hbk : r.pty.bkOk = (List.range r.blocks.length).all r.pty.bkR := by
  show (decide (r.blocks.length <= 60) && _) = _
  rw [decide_eq_true h60, Bool.true_and]
  rfl
 rw [hbk, Bool.true_and, Bool.true_and]
 by_cases hb : ∀ i, i < r.blocks.length -> (r.blocks.getD i default).ok r.n = true
 rotate_left
 ·have h3 : ∃ i, i < r.blocks.length /\ (r.blocks.getD i default).ok r.n = false := Classical.byContradiction fun h => hb fun i hi => by
   cases hq : (r.blocks.getD i default).ok r.n
   ·exact absurd ⟨i, hi, hq⟩ h
   ·rfl
  obtain ⟨i, hi, hq⟩ := h3
  have e1 : (List.range r.blocks.length).all r.pty.bkR = false := List.all_eq_false.2 ⟨i, List.mem_range.2 hi, by
   have : (r.pty.r.blocks.getD i default).ok r.pty.r.n = false := hq
   rw [Pty.bkR, this]
   simp⟩
  have e2 : (List.range r.blocks.length).all r.bk = false := List.all_eq_false.2 ⟨i, List.mem_range.2 hi, by rw [Rpl.bk, hq]; simp⟩
  rw [e1, e2]
  rfl
 by_cases ha : r.apart
 rotate_left
 ·have h3 : ∃ i k, i < r.blocks.length /\ k < i /\ (r.blocks.getD k default).nm = (r.blocks.getD i default).nm := Classical.byContradiction fun h => ha fun i k hi hk he => h ⟨i, k, hi, hk, he⟩
  obtain ⟨i, k, hi, hk, hq⟩ := h3
  have e1 : (List.range r.blocks.length).all r.pty.bkR = false := List.all_eq_false.2 ⟨i, List.mem_range.2 hi, by
   have h1 : r.pty.names.getD i default = (r.blocks.getD i default).nm := by
    show (r.blocks.map Blk.nmI).getD i default = _
    rw [Rpl.names_eq hb, getD_map hi]
   have h4 : ¬ r.pty.fnd (r.blocks.getD i default).nm = (i : Int) := fun h => ((Rpl.fnd_at hb hi).1 h).2 k hk hq
   rw [Pty.bkR, h1, decide_eq_false h4]
   simp⟩
  have e2 : (List.range r.blocks.length).all r.bk = false := List.all_eq_false.2 ⟨i, List.mem_range.2 hi, by
   have : ((List.range i).all fun k => !decide ((r.blocks.getD k default).nm = (r.blocks.getD i default).nm)) = false := List.all_eq_false.2 ⟨k, List.mem_range.2 hk, by rw [decide_eq_true hq]; decide⟩
   rw [Rpl.bk, this]
   simp⟩
  rw [e1, e2]
  rfl
 rw [range_all_congr (g := r.bk) fun i hi => Rpl.bkR_eq hb ha hi]
 cases hq : (List.range r.blocks.length).all r.bk
 ·rfl
 have hk : ∀ i, i < r.blocks.length -> knwB (r.blocks.take i) (r.blocks.getD i default).proof = true := fun i hi => by
  have := range_all.1 hq i hi
  simp only [Rpl.bk, Bool.and_eq_true] at this
  exact this.2.1
 rw [Rpl.high_eq hb ha, Rpl.dn_eq hb ha hk, Bool.true_and, Bool.true_and]
 cases r.votes.all (fun v => v.ok r.n) <;> cases r.news.all (nwOk r.n) <;> simp
end
end Go.VS
set_option linter.unusedSimpArgs false
set_option linter.unusedVariables false
open Go.Proofs
set_option maxRecDepth 20000
namespace Go.VS
def Rpl.at (r : Rpl) (x : Prf) : Int := if x.one = true then -1 else idxOf (fndP x.name x.view) r.blocks
def Rpl.up (r : Rpl) (i : Nat) : Int := r.at (r.blocks.getD i default).proof
def Rpl.chF (r : Rpl) : Nat -> Int -> List Int
 | 0, _ => []
 | n + 1, i => if i < 0 then [] else r.chF n (r.up i.toNat) ++ [(r.blocks.getD i.toNat default).nm]
def Rpl.vw (r : Rpl) (i : Int) : Int := (r.blocks.getD i.toNat default).view
def Rpl.agr (r : Rpl) (i : Nat) : Rpl :=
 if r.up i < 0 \/ r.vw (r.up i) + 1 ≠ r.vw i then r else
 if r.up (r.up i).toNat < 0 \/ r.vw (r.up (r.up i).toNat) + 1 ≠ r.vw (r.up i) then r else
 if r.done.length < (r.chF 61 (r.up (r.up i).toNat)).length /\ (r.chF 61 (r.up (r.up i).toNat)).take r.done.length = r.done then { r with done := r.chF 61 (r.up (r.up i).toNat) } else r
def maxI (a b : Int) : Int := if a < b then b else a
def minI (a b : Int) : Int := if b < a then b else a
def Rpl.tkP (r : Rpl) (x : Prf) : Rpl :=
 if x.ok r.n = true /\ knwB r.blocks x = true then
  if r.at x < 0 then { r with high := if r.high.view < x.view then x else r.high, view := maxI r.view (minI (x.view + 1) 100000) }
  else ({ r with high := if r.high.view < x.view then x else r.high, view := maxI r.view (minI (x.view + 1) 100000), locked := maxI r.locked (r.blocks.getD (r.at x).toNat default).proof.view } : Rpl).agr (r.at x).toNat
 else r
def vtP (n view name s : Int) (v : Vot) : Bool := decide (v.bY = s) && (decide (v.view = view) && (decide (v.name = name) && v.ok n))
def gthL (n view name : Int) (l : List Vot) : List Int := ((List.range n.toNat).filter fun (s : Nat) => l.any (vtP n view name (s : Int))).map fun (s : Nat) => (s : Int)
def gth (n view name : Int) (l : List Vot) : Option Prf :=
 if srv n = true /\ qrm n <= ((gthL n view name l).length : Int) then some ⟨view, name, gthL n view name l, (gthL n view name l).map fun s => tagV s (balB view name)⟩ else none
def likeV (v x : Vot) : Bool := decide (x.view = v.view) && decide (x.name = v.name)
def Rpl.tkV (r : Rpl) (v : Vot) : Rpl :=
 if v.ok r.n = true /\ (v.view + 1).tmod r.n = r.id /\ 0 <= idxOf (fndP v.name v.view) r.blocks /\ r.votes.length < 60 /\ ¬ v ∈ r.votes then
  match gth r.n v.view v.name ((r.votes ++ [v]).filter (likeV v)) with
  | some p => ({ r with votes := r.votes ++ [v] } : Rpl).tkP p
  | none => { r with votes := r.votes ++ [v] }
 else r
def Rpl.tkN (r : Rpl) (x : Nws) : Rpl :=
 if (1 <= x.view /\ x.view <= 100000) /\ x.view.tmod r.n = r.id /\ r.news.length < 30 /\ ¬ x ∈ r.news then { r with news := r.news ++ [x] } else r
def zPrf : Prf := ⟨0, 0, [], []⟩
def zBlk : Blk := ⟨0, 0, zPrf, [], 0⟩
def nmB2 (n : Int) (b : Blk) : Bool := decide (b.nm = n)
def Rpl.cast (r : Rpl) (b : Blk) : Vot := ⟨b.view, b.nm, r.id, tagV r.id (balB b.view b.nm)⟩
def Rpl.tkB0 (r : Rpl) (b : Blk) : Rpl :=
 { (({ r with blocks := r.blocks ++ [b] } : Rpl).tkP b.proof) with view := maxI (({ r with blocks := r.blocks ++ [b] } : Rpl).tkP b.proof).view b.view }
def Rpl.tkB (r : Rpl) (b : Blk) : Rpl × List Msg :=
 if b.ok r.n = true /\ knwB r.blocks b.proof = true /\ r.blocks.length < 60 /\ r.blocks.any (nmB2 b.nm) = false then
  if b.view <= (r.tkB0 b).voted \/ b.proof.view < (r.tkB0 b).locked then (r.tkB0 b, []) else
  if (b.view + 1).tmod r.n = r.id then ((({ r.tkB0 b with voted := b.view } : Rpl).tkV (r.cast b)), [])
  else ({ r.tkB0 b with voted := b.view }, [⟨2, r.id, (b.view + 1).tmod r.n, 0, zBlk, r.cast b, zPrf⟩])
 else (r, [])
def Rpl.tk (r : Rpl) (m : Msg) : Rpl × List Msg :=
 if m.kind = 1 then r.tkB m.block else if m.kind = 2 then (r.tkV m.vote, []) else if m.kind = 3 then ((r.tkP m.proof).tkN ⟨m.view, m.src⟩, []) else (r, [])
def Rpl.hr (r : Rpl) (m : Msg) : Rpl × List Msg :=
 if m.dst = r.id /\ ¬ m.src = r.id /\ 0 <= m.src /\ m.src <= r.n - 1 then r.tk m else (r, [])
structure Rpl.wf (r : Rpl) : Prop where
 sv : srv r.n = true
 bl : r.blocks.length <= 60
 bk : ∀ i, i < r.blocks.length -> (r.blocks.getD i default).ok r.n = true
 ap : r.apart
 kn : ∀ i, i < r.blocks.length -> knwB (r.blocks.take i) (r.blocks.getD i default).proof = true
 dl : r.done.length <= 1048576
 vl : r.votes.length <= 60
 nl : r.news.length <= 30
 hs : r.high.sz <= 1048576
theorem Rpl.wf_of {r : Rpl} (h : r.ok = true) (hd : r.done.length <= 1048576) (hh : r.high.sz <= 1048576) : r.wf := by
 simp only [Rpl.ok, Rpl.hd, Rpl.hd2, Bool.and_eq_true, decide_eq_true_eq] at h
 obtain ⟨⟨h1, h2⟩, ⟨h3, h4, h5, h6⟩, h7, _⟩ := h
 have h7' := range_all.1 h7
 have hk : ∀ i, i < r.blocks.length -> (r.blocks.getD i default).ok r.n = true /\ knwB (r.blocks.take i) (r.blocks.getD i default).proof = true /\ ∀ k, k < i -> (r.blocks.getD k default).nm ≠ (r.blocks.getD i default).nm := fun i hi => by
  have := h7' i hi
  simp only [Rpl.bk, Bool.and_eq_true] at this
  refine ⟨this.1, this.2.1, fun k hk => ?_⟩
  have := range_all.1 this.2.2 k hk
  simpa using this
 exact ⟨h1, h4, fun i hi => (hk i hi).1, fun i k hi hk' => (hk i hi).2.2 k hk', fun i hi => (hk i hi).2.1, hd, h5, h6, hh⟩
section
variable {r : Rpl} (hw : r.wf)
include hw
theorem Rpl.wf.has (x : Prf) (ho : x.one = false) : r.pty.has x.name x.view = r.at x := by
 unfold Rpl.at
 rw [if_neg (by rw [ho]; decide)]
 by_cases h : r.blocks.any (fndP x.name x.view) = true
 ·have h1 := (Rpl.has_any hw.bk hw.ap (n := x.name) (v := x.view) (m := r.blocks.length) (Nat.le_refl _)).2 (by rw [List.take_length]; exact h)
  have h2 : 0 <= r.pty.fnd x.name /\ r.pty.has x.name x.view = r.pty.fnd x.name /\ (r.blocks.getD (r.pty.fnd x.name).toNat default).view = x.view := by
   have h3 := h1.1
   unfold Pty.has at h3 ⊢
   split at h3
   ·omega
   ·rename_i hc
    rw [if_neg hc]
    refine ⟨h3, rfl, ?_⟩
    have : ¬ ¬ (r.blocks.getD (r.pty.fnd x.name).toNat default).view = x.view := fun h => hc ⟨h3, h⟩
    exact Decidable.of_not_not this
  obtain ⟨i, hi, he, hn⟩ := Rpl.fnd_name hw.bk h2.1
  rw [h2.2.1, he]
  rw [he, Int.toNat_natCast] at h2
  refine (idxOf_hit (fun y hy => ?_) hi ?_).symm
  ·obtain ⟨k, hk, rfl⟩ := List.mem_take_iff_getElem.1 hy
   have hki : k < i := by omega
   have hkl : k < r.blocks.length := by omega
   rw [getElem_D hkl]
   have := hw.ap i k hi hki
   rw [hn] at this
   simp only [fndP, Bool.and_eq_false_iff, decide_eq_false_iff_not]
   exact .inr this
  ·rw [getElem_D hi]
   simp only [fndP, Bool.and_eq_true, decide_eq_true_eq]
   exact ⟨h2.2.2, hn⟩
 ·have h1 : ¬ (0 <= r.pty.has x.name x.view /\ r.pty.has x.name x.view < (r.blocks.length : Int)) := fun h1 => h (by
   have := (Rpl.has_any hw.bk hw.ap (n := x.name) (v := x.view) (m := r.blocks.length) (Nat.le_refl _)).1 h1
   rwa [List.take_length] at this)
  have h2 := idxOf_rng (isI x.name) r.pty.names
  have hl : r.pty.names.length = r.blocks.length := by simp [Rpl.pty]
  have hd : r.pty.fnd x.name = idxOf (isI x.name) r.pty.names := rfl
  have h3 : idxOf (fndP x.name x.view) r.blocks = -1 := by
   unfold idxOf
   rw [if_neg h]
  rw [h3]
  unfold Pty.has at h1 ⊢
  split
  ·rfl
  ·rename_i hc
   rw [if_neg hc] at h1
   omega
theorem Rpl.wf.up_rng {i : Nat} (hi : i < r.blocks.length) : -1 <= r.up i /\ r.up i < (i : Int) := by
 unfold Rpl.up Rpl.at
 split
 ·omega
 ·rename_i ho
  have h := hw.kn i hi
  unfold knwB at h
  rw [Bool.or_eq_true] at h
  rcases h with h | h
  ·exact absurd h ho
  ·obtain ⟨y, hy, hp⟩ := List.any_eq_true.1 h
   obtain ⟨k, hk, rfl⟩ := List.mem_take_iff_getElem.1 hy
   have hkl : k < r.blocks.length := by omega
   refine ⟨(idxOf_rng _ _).1, ?_⟩
   have h1 : r.blocks.any (fndP (r.blocks.getD i default).proof.name (r.blocks.getD i default).proof.view) = true := List.any_eq_true.2 ⟨_, List.getElem_mem hkl, hp⟩
   unfold idxOf
   rw [if_pos h1]
   have : r.blocks.findIdx (fndP (r.blocks.getD i default).proof.name (r.blocks.getD i default).proof.view) <= k := by
    apply Nat.le_of_not_lt
    intro hlt
    have := List.not_of_lt_findIdx hlt
    rw [hp] at this
    exact absurd this (by decide)
   omega
theorem Rpl.wf.fnd_up {i : Nat} (hi : i < r.blocks.length) : r.pty.fnd (r.blocks.getD i default).parent = r.up i := by
 have hp := (Blk.ok_of (hw.bk i hi)).2.2.2.1
 rw [hp]
 unfold Rpl.up Rpl.at
 split
 ·rename_i ho
  have h0 : (r.blocks.getD i default).proof.name = 0 := by
   simp only [Prf.one, decide_eq_true_eq] at ho
   exact ho.2.1
  rw [h0]
  have h1 := idxOf_rng (isI 0) r.pty.names
  have hd : r.pty.fnd 0 = idxOf (isI 0) r.pty.names := rfl
  by_cases h2 : 0 <= r.pty.fnd 0
  ·obtain ⟨k, _, _, hn⟩ := Rpl.fnd_name hw.bk h2
   have := (Blk.nm_rng (r.blocks.getD k default)).1
   omega
  ·omega
 ·rename_i ho
  have ho' : (r.blocks.getD i default).proof.one = false := by simpa using ho
  have h1 := hw.has (r.blocks.getD i default).proof ho'
  have h2 := hw.up_rng hi
  unfold Rpl.at at h1
  rw [if_neg ho] at h1
  have h := hw.kn i hi
  unfold knwB at h
  rw [ho', Bool.false_or] at h
  have h3 : r.blocks.any (fndP (r.blocks.getD i default).proof.name (r.blocks.getD i default).proof.view) = true := by
   obtain ⟨y, hy, hp⟩ := List.any_eq_true.1 h
   exact List.any_eq_true.2 ⟨y, List.mem_of_mem_take hy, hp⟩
  have h4 := idxOf_nonneg.2 h3
  rw [<- h1] at h4 ⊢
  unfold Pty.has at h4 ⊢
  split at h4
  ·omega
  ·rename_i hc
   rw [if_neg hc]
end
end Go.VS
set_option linter.unusedSimpArgs false
set_option linter.unusedVariables false
open Go.Proofs
set_option maxRecDepth 20000
namespace Go.VS
theorem f159_at : gz.P.funcs[159]? = some Tryz.f159 := by
 have h : Tryz.prog.funcs[159]? = some Tryz.f159 := by kernel_rfl
 exact h
theorem f156_at : gz.P.funcs[156]? = some Tryz.f156 := by
 have h : Tryz.prog.funcs[156]? = some Tryz.f156 := by kernel_rfl
 exact h
theorem f160_at : gz.P.funcs[160]? = some Tryz.f160 := by
 have h : Tryz.prog.funcs[160]? = some Tryz.f160 := by kernel_rfl
 exact h
theorem f143_at : gz.P.funcs[143]? = some Tryz.f143 := by
 have h : Tryz.prog.funcs[143]? = some Tryz.f143 := by kernel_rfl
 exact h
theorem f148_at : gz.P.funcs[148]? = some Tryz.f148 := by
 have h : Tryz.prog.funcs[148]? = some Tryz.f148 := by kernel_rfl
 exact h
theorem f162_at : gz.P.funcs[162]? = some Tryz.f162 := by
 have h : Tryz.prog.funcs[162]? = some Tryz.f162 := by kernel_rfl
 exact h
theorem f144_at : gz.P.funcs[144]? = some Tryz.f144 := by
 have h : Tryz.prog.funcs[144]? = some Tryz.f144 := by kernel_rfl
 exact h
theorem ok159 (l m : List Int) : VCalls gz 159 [.lst false 1 (l.map intA), .lst false 1 (m.map intA)] none (fun y _ => y = .lit (.bool (decide (l = m)))) := by
 refine VCalls.go (nt := 26) (keep := [0, 1, 4, 5, 10, 12, 13, 14, 24]) (muts := []) (mvs := []) [(6, .chain true [0, 1, 2, 3, 4, 5, 6, 7, 8])] f159_at rfl (by kernel_rfl) rfl (by kernel_rfl) rfl (fun i h => by cases h) rfl ?_
 intro hok
 simp only [go_sem] at hok
 simp only [Tryz.f159, Func.code, Option.getD_some]
 simp only [go_sem]
 intro hm1 hm2
 by_cases hl : l.length = m.length
 rotate_left
 ·have hl2 : ¬ (l.length : Int) = (m.length : Int) := by omega
  have : ¬ l = m := fun e => hl (by rw [e])
  simp only [go_sem, hl2, this]
 have hl2 : (l.length : Int) = (m.length : Int) := by omega
 simp only [go_sem, eq_true hl2]
 intro _
 refine vm_loopK (α := Nat) (fun i => [(0, .lst false 1 (l.map intA)), (1, .lst false 1 (m.map intA)), (12, .lit (.int .i64 l.length)), (13, .lit (.int .i64 i))]) (fun i => i <= l.length /\ ∀ j, j < i -> l.getD j default = m.getD j default) (fun i => l.length - i) 0 ?_ ⟨by omega, fun j hj => by omega⟩ (by kernel_rfl) (fun _ => rfl) ?_
 ·simp only [go_sem]
  try rfl
 ·rintro i ⟨hi, he⟩ hk
  simp only [go_sem]
  first | refine branch_ndec (fun h6 => ?_) (fun h6 => ?_) | refine branch_dec (fun h6 => ?_) (fun h6 => ?_) | refine branch_nbool (fun h6 => ?_) (fun h6 => ?_) | refine branch_split (fun h6 => ?_) (fun h6 => ?_)
  rotate_left
  ·have hie : i = l.length := by omega
   have : l = m := List.ext_getElem hl fun j h1 h2 => by
    have := he j (by omega)
    simpa [List.getD, h1, h2] using this
   simp only [go_sem, eq_true this]
  have hlt : i < l.length := by omega
  have hlt2 : i < m.length := by omega
  have h0 : (0 : Int) <= (i : Int) := by omega
  have hlt3 : (i : Int) < (m.length : Int) := by omega
  have hw3 : IntKind.i64.wrap ((i : Int) + 1) = ((i + 1 : Nat) : Int) := by rw [wrap64 (by omega) (by omega)]; omega
  simp only [go_sem, h0, hlt, h6, hlt2, hlt3]
  first | refine branch_ndec (fun h7 => ?_) (fun h7 => ?_) | refine branch_dec (fun h7 => ?_) (fun h7 => ?_) | refine branch_nbool (fun h7 => ?_) (fun h7 => ?_) | refine branch_split (fun h7 => ?_) (fun h7 => ?_)
  ·simp only [go_sem, hw3]
   refine again_intro (i + 1) ⟨by omega, fun j hj => ?_⟩ (by omega) ?_
   ·rcases Nat.lt_succ_iff_lt_or_eq.1 hj with h | rfl
    ·exact he j h
    ·exact h7
   simp only [go_sem]
   try rfl
  ·have : ¬ l = m := fun e => h7 (by rw [e])
   simp only [go_sem, this]
def eqB {α : Type} [DecidableEq α] (x y : α) : Bool := decide (x = y)
theorem idxOf_mem {α : Type} [DecidableEq α] {x : α} {xs : List α} : (0 <= idxOf (eqB x) xs) ↔ x ∈ xs := by
 rw [idxOf_nonneg, List.any_eq_true]
 exact ⟨fun ⟨y, hy, h⟩ => by rw [show x = y by simpa [eqB] using h]; exact hy, fun h => ⟨x, h, by simp [eqB]⟩⟩
theorem Vot.eqB_eq {x y : Vot} : (decide (x.view = y.view) && (decide (x.name = y.name) && (decide (x.bY = y.bY) && decide (x.tag = y.tag)))) = eqB x y := by
 cases x; cases y
 simp only [eqB, Vot.mk.injEq, Bool.decide_and]
theorem Nws.eqB_eq {x y : Nws} : (decide (x.view = y.view) && decide (x.src = y.src)) = eqB x y := by
 cases x; cases y
 simp only [eqB, Nws.mk.injEq, Bool.decide_and]
theorem ok156 (l : List Vot) (x : Vot) : VCalls gz 156 [.lst false 4 (l.map Vot.enc), Vot.enc x] none (fun y _ => y = .lit (.int .i64 (idxOf (eqB x) l))) := by
 refine VCalls.go (nt := 19) (keep := [0, 1, 3, 4, 5, 7, 8, 9, 16]) (muts := []) (mvs := []) [(4, .chain true [0, 1, 2, 3, 4, 5])] f156_at rfl (by kernel_rfl) rfl (by kernel_rfl) rfl (fun i h => by cases h) rfl ?_
 intro hok
 simp only [go_sem] at hok
 simp only [Tryz.f156, Func.code, Option.getD_some]
 simp only [go_sem]
 intro hm
 refine vm_loopK (α := Nat) (fun i => [(0, .lst false 4 (l.map Vot.enc)), (3, .ptr true (Vot.enc x)), (7, .lit (.int .i64 l.length)), (8, .lit (.int .i64 i))]) (fun i => i <= l.length /\ ∀ j, j < i -> eqB x (l.getD j default) = false) (fun i => l.length - i) 0 ?_ ⟨by omega, fun j hj => by omega⟩ (by kernel_rfl) (fun _ => rfl) ?_
 ·simp only [go_sem]
  try rfl
 ·rintro i ⟨hi, he⟩ hk
  simp only [go_sem]
  first | refine branch_ndec (fun h6 => ?_) (fun h6 => ?_) | refine branch_dec (fun h6 => ?_) (fun h6 => ?_) | refine branch_nbool (fun h6 => ?_) (fun h6 => ?_) | refine branch_split (fun h6 => ?_) (fun h6 => ?_)
  rotate_left
  ·have hie : i = l.length := by omega
   have : idxOf (eqB x) l = -1 := idxOf_none (fun y hy => take_all (i := i) hi he y (by rw [hie, List.take_length]; exact hy))
   simp only [go_sem, this]
  have hlt : i < l.length := by omega
  have h0 : (0 : Int) <= (i : Int) := by omega
  have hw3 : IntKind.i64.wrap ((i : Int) + 1) = ((i + 1 : Nat) : Int) := by rw [wrap64 (by omega) (by omega)]; omega
  simp only [go_sem, h0, hlt, h6, Vot.eqB_eq]
  refine branch_split (fun h7 => ?_) (fun h7 => ?_)
  ·have : idxOf (eqB x) l = i := idxOf_hit (take_all hi he) hlt (by rw [getElem_D hlt]; exact h7)
   simp only [go_sem, this]
  ·simp only [go_sem, hw3]
   refine again_intro (i + 1) ⟨by omega, nx he h7⟩ (by omega) ?_
   simp only [go_sem]
   try rfl
theorem ok160 (l : List Nws) (x : Nws) : VCalls gz 160 [.lst false 2 (l.map Nws.enc), Nws.enc x] none (fun y _ => y = .lit (.int .i64 (idxOf (eqB x) l))) := by
 refine VCalls.go (nt := 19) (keep := [0, 1, 3, 4, 5, 7, 8, 9, 16]) (muts := []) (mvs := []) [(4, .chain true [0, 1, 2, 3, 4, 5])] f160_at rfl (by kernel_rfl) rfl (by kernel_rfl) rfl (fun i h => by cases h) rfl ?_
 intro hok
 simp only [go_sem] at hok
 simp only [Tryz.f160, Func.code, Option.getD_some]
 simp only [go_sem]
 intro hm
 refine vm_loopK (α := Nat) (fun i => [(0, .lst false 2 (l.map Nws.enc)), (3, .ptr true (Nws.enc x)), (7, .lit (.int .i64 l.length)), (8, .lit (.int .i64 i))]) (fun i => i <= l.length /\ ∀ j, j < i -> eqB x (l.getD j default) = false) (fun i => l.length - i) 0 ?_ ⟨by omega, fun j hj => by omega⟩ (by kernel_rfl) (fun _ => rfl) ?_
 ·simp only [go_sem]
  try rfl
 ·rintro i ⟨hi, he⟩ hk
  simp only [go_sem]
  first | refine branch_ndec (fun h6 => ?_) (fun h6 => ?_) | refine branch_dec (fun h6 => ?_) (fun h6 => ?_) | refine branch_nbool (fun h6 => ?_) (fun h6 => ?_) | refine branch_split (fun h6 => ?_) (fun h6 => ?_)
  rotate_left
  ·have hie : i = l.length := by omega
   have : idxOf (eqB x) l = -1 := idxOf_none (fun y hy => take_all (i := i) hi he y (by rw [hie, List.take_length]; exact hy))
   simp only [go_sem, this]
  have hlt : i < l.length := by omega
  have h0 : (0 : Int) <= (i : Int) := by omega
  have hw3 : IntKind.i64.wrap ((i : Int) + 1) = ((i + 1 : Nat) : Int) := by rw [wrap64 (by omega) (by omega)]; omega
  simp only [go_sem, h0, hlt, h6, Nws.eqB_eq]
  refine branch_split (fun h7 => ?_) (fun h7 => ?_)
  ·have : idxOf (eqB x) l = i := idxOf_hit (take_all hi he) hlt (by rw [getElem_D hlt]; exact h7)
   simp only [go_sem, this]
  ·simp only [go_sem, hw3]
   refine again_intro (i + 1) ⟨by omega, nx he h7⟩ (by omega) ?_
   simp only [go_sem]
   try rfl
theorem ok143 (l : List Vot) (x : Vot) : VCalls gz 143 [.lst false 4 (l.map Vot.enc), Vot.enc x] none (fun y _ => y = .lit (.bool (decide (x ∈ l)))) := by
 refine VCalls.go (nt := 9) (keep := [0, 1, 3, 4]) (muts := []) (mvs := []) [] f143_at rfl (by kernel_rfl) rfl (by kernel_rfl) rfl (fun i h => by cases h) rfl ?_
 intro hok
 simp only [go_sem] at hok
 simp only [Tryz.f143, Func.code, Option.getD_some]
 simp only [go_sem]
 refine call_lend ?_
 simp only [go_sem]
 refine callN.eq (ok156 l x) (by simp only [go_sem]) ?_
 simp only [go_sem]
 simp only [idxOf_mem]
theorem ok148 (l : List Nws) (x : Nws) : VCalls gz 148 [.lst false 2 (l.map Nws.enc), Nws.enc x] none (fun y _ => y = .lit (.bool (decide (x ∈ l)))) := by
 refine VCalls.go (nt := 9) (keep := [0, 1, 3, 4]) (muts := []) (mvs := []) [] f148_at rfl (by kernel_rfl) rfl (by kernel_rfl) rfl (fun i h => by cases h) rfl ?_
 intro hok
 simp only [go_sem] at hok
 simp only [Tryz.f148, Func.code, Option.getD_some]
 simp only [go_sem]
 refine call_lend ?_
 simp only [go_sem]
 refine callN.eq (ok160 l x) (by simp only [go_sem]) ?_
 simp only [go_sem]
 simp only [idxOf_mem]
end Go.VS
set_option linter.unusedSimpArgs false
set_option linter.unusedVariables false
open Go.Proofs
set_option maxRecDepth 20000
namespace Go.VS
theorem f157_at : gz.P.funcs[157]? = some Tryz.f157 := by
 have h : Tryz.prog.funcs[157]? = some Tryz.f157 := by kernel_rfl
 exact h
theorem f146_at : gz.P.funcs[146]? = some Tryz.f146 := by
 have h : Tryz.prog.funcs[146]? = some Tryz.f146 := by kernel_rfl
 exact h
theorem f105_at : gz.P.funcs[105]? = some Tryz.f105 := by
 have h : Tryz.prog.funcs[105]? = some Tryz.f105 := by kernel_rfl
 exact h
theorem ok157 (v : Vot) (s : Int) (p : Prf) (n : Int) : VCalls gz 157 [v.enc, .ptr false (.lit (.int .i64 s)), .ptr false (p.enc false), .ptr false (.lit (.int .i64 n))] none (fun y _ => y = .lit (.bool (vtP n p.view p.name s v))) := by
 refine VCalls.go (nt := 29) (keep := [0, 1, 2, 3, 4, 5]) (muts := []) (mvs := []) [] f157_at rfl (by kernel_rfl) rfl (by kernel_rfl) rfl (fun i h => by cases h) rfl ?_
 intro hok
 simp only [go_sem] at hok
 simp only [Tryz.f157, Func.code, Option.getD_some]
 simp only [go_sem]
 unfold vtP
 by_cases h1 : v.bY = s
 ·by_cases h2 : v.view = p.view
  ·by_cases h3 : v.name = p.name
   ·simp only [go_sem, eq_true h1, eq_true h2, eq_true h3]
    refine call_lend ?_
    simp only [go_sem]
    refine callN.eq (ok86 v n) (by simp only [go_sem]) ?_
    simp only [go_sem]
   ·simp only [go_sem, eq_true h1, eq_true h2, h3]
  ·simp only [go_sem, eq_true h1, h2]
 ·simp only [go_sem, h1]
def gthN (n view name : Int) (l : List Vot) (i : Nat) : List Int := ((List.range i).filter fun (s : Nat) => l.any (vtP n view name (s : Int))).map fun (s : Nat) => (s : Int)
theorem gthN_succ (n view name : Int) (l : List Vot) (i : Nat) : gthN n view name l (i + 1) = gthN n view name l i ++ (if l.any (vtP n view name (i : Int)) = true then [(i : Int)] else []) := by
 unfold gthN
 rw [List.range_succ, List.filter_append, List.map_append]
 congr 1
 cases h : l.any (vtP n view name (i : Int)) <;> simp [List.filter_cons, h]
theorem gthN_len (n view name : Int) (l : List Vot) (i : Nat) : (gthN n view name l i).length <= i := by
 unfold gthN
 rw [List.length_map]
 have := List.length_filter_le (fun s => l.any (vtP n view name ((s : Nat) : Int))) (List.range i)
 rwa [List.length_range] at this
def gthA : Option Prf -> AVal
 | some p => .tup [p.enc true, .lit (.bool true)]
 | none => .tup [zPrf.enc true, .lit (.bool false)]
def gthP (n view name : Int) (l : List Vot) (i : Nat) : Prf := ⟨view, name, gthN n view name l i, (gthN n view name l i).map fun s => tagV s (balB view name)⟩
theorem gth_none {n view name : Int} {l : List Vot} (h : srv n = false) : gth n view name l = none := if_neg (by rw [h]; simp)
theorem gth_nil {n view name : Int} : gth n view name [] = none := by
 unfold gth
 rw [if_neg]
 rintro ⟨h1, h2⟩
 have h3 : gthL n view name [] = [] := by simp [gthL]
 rw [h3] at h2
 have : 0 < qrm n := by rw [qrm_pos]; exact h1
 simp at h2
 omega
theorem gth_few {n view name : Int} {l : List Vot} (h : ((gthL n view name l).length : Int) < qrm n) : gth n view name l = none := if_neg (by rintro ⟨_, h2⟩; omega)
theorem gth_some {n view name : Int} {l : List Vot} (hs : srv n = true) (h : ¬ ((gthL n view name l).length : Int) < qrm n) : gth n view name l = some (gthP n view name l n.toNat) := if_pos ⟨hs, by omega⟩
theorem srv_rng {n : Int} (h : srv n = true) : 1 <= n /\ n <= 7 := by rcases srv_iff.1 h with h | h | h <;> omega
theorem vtP_tag {n view name s : Int} {v : Vot} (h : vtP n view name s v = true) : v.tag = tagV s (balB view name) := by
 simp only [vtP, Bool.and_eq_true, decide_eq_true_eq] at h
 obtain ⟨h1, h2, h3, h4⟩ := h
 rw [(Vot.ok_of h4).2.2.2.2, h1, h2, h3]
theorem any_idx {α : Type} [Inhabited α] {p : α -> Bool} {xs : List α} (h : 0 <= idxOf p xs) : ∃ k, k < xs.length /\ idxOf p xs = (k : Int) /\ p (xs.getD k default) = true := by
 have h1 := idxOf_nonneg.1 h
 refine ⟨xs.findIdx p, List.findIdx_lt_length_of_exists (by simpa [List.any_eq_true] using h1), by unfold idxOf; rw [if_pos h1], ?_⟩
 have hl : xs.findIdx p < xs.length := List.findIdx_lt_length_of_exists (by simpa [List.any_eq_true] using h1)
 rw [<- getElem_D hl]
 exact List.findIdx_getElem
end Go.VS
set_option linter.unusedSimpArgs false
set_option linter.unusedVariables false
open Go.Proofs
set_option maxRecDepth 20000
namespace Go.VS
theorem gthL_N (n view name : Int) (l : List Vot) : gthL n view name l = gthN n view name l n.toNat := rfl
def gthT (n view name : Int) (l : List Vot) (i : Nat) : List Int := (gthN n view name l i).map fun s => tagV s (balB view name)
theorem gthT_succ (n view name : Int) (l : List Vot) (i : Nat) : gthT n view name l (i + 1) = gthT n view name l i ++ (if l.any (vtP n view name (i : Int)) = true then [tagV (i : Int) (balB view name)] else []) := by
 unfold gthT
 rw [gthN_succ, List.map_append]
 congr 1
 split <;> rfl
theorem gthT_len (n view name : Int) (l : List Vot) (i : Nat) : (gthT n view name l i).length <= i := by
 unfold gthT
 rw [List.length_map]
 exact gthN_len n view name l i
theorem gthP_eq (n view name : Int) (l : List Vot) (i : Nat) : gthP n view name l i = ⟨view, name, gthN n view name l i, gthT n view name l i⟩ := rfl
set_option maxHeartbeats 2000000 in
theorem ok146 (l : List Vot) (n : Int) : VCalls gz 146 [.lst false 4 (l.map Vot.enc), .lit (.int .i64 n)] none (fun y _ => y = gthA (gth n (l.getD 0 default).view (l.getD 0 default).name l)) := by
 refine VCalls.go (nt := 61) (keep := [0, 1, 3, 4, 5, 6, 7, 8, 16, 27, 28, 29, 35, 58]) (muts := []) (mvs := [14]) [(3, .tree false (.take 0 (.take 1 (.take 2 (.take 4 (.take 5 (.take 6 (.all (.cons 3 (.all (.cons 7 (.all (.cons 8 (.all (.cons 9 (.all (.cons 10 .done .nil)) .nil)) (.cons 9 (.all (.cons 8 (.all (.cons 10 .done .nil)) .nil)) .nil))) (.cons 9 (.all (.cons 7 (.all (.cons 8 (.all (.cons 10 .done .nil)) .nil)) .nil)) .nil))) (.cons 7 (.all (.cons 3 (.all (.cons 8 (.all (.cons 9 (.all (.cons 10 .done .nil)) .nil)) (.cons 9 (.all (.cons 8 (.all (.cons 10 .done .nil)) .nil)) .nil))) (.cons 9 (.all (.cons 3 (.all (.cons 8 (.all (.cons 10 .done .nil)) .nil)) .nil)) .nil))) (.cons 9 (.all (.cons 3 (.all (.cons 7 (.all (.cons 8 (.all (.cons 10 .done .nil)) .nil)) .nil)) (.cons 7 (.all (.cons 3 (.all (.cons 8 (.all (.cons 10 .done .nil)) .nil)) .nil)) .nil))) .nil))))))))))), (10, .tree false (.take 0 (.take 2 (.take 3 (.take 4 (.take 5 (.all (.cons 1 (.all (.cons 6 (.all (.cons 7 (.all (.cons 8 (.take 9 (.all (.cons 10 .done .nil))) .nil)) .nil)) .nil)) (.cons 6 (.all (.cons 1 (.all (.cons 7 (.all (.cons 8 (.take 9 (.all (.cons 10 .done .nil))) .nil)) .nil)) (.cons 7 (.all (.cons 1 (.all (.cons 8 (.take 9 (.all (.cons 10 .done .nil))) .nil)) .nil)) .nil))) .nil))))))))), (12, .tree true (.take 0 (.take 1 (.take 2 (.take 3 (.all (.cons 4 (.take 5 .done) .nil)))))))] f146_at rfl (by kernel_rfl) rfl (by kernel_rfl) rfl (fun i h => by cases h) rfl ?_
 intro hok
 simp only [go_sem] at hok
 simp only [Tryz.f146, Func.code, Option.getD_some]
 simp only [go_sem]
 intro hm
 by_cases h0 : (l.length : Int) = 0
 ·have hl : l = [] := List.eq_nil_of_length_eq_zero (by omega)
  subst hl
  rw [gth_nil]
  simp only [go_sem, Int.natCast_zero, decide_true]
  try rfl
 simp only [go_sem, h0]
 refine call_lend ?_
 simp only [go_sem]
 refine callN.eq (ok76 n) (by simp only [go_sem]) ?_
 simp only [go_sem]
 cases hs : srv n
 ·have : qrm n < 0 := by rw [qrm_neg]; exact hs
  rw [gth_none hs]
  simp only [go_sem, eq_true this]
  try rfl
 have hq : 0 < qrm n := by rw [qrm_pos]; exact hs
 have hq2 : ¬ qrm n < 0 := by omega
 have hn := srv_rng hs
 have hlt0 : 0 < l.length := by omega
 have hlt1 : (0 : Int) < (l.length : Int) := by omega
 obtain ⟨N, hN⟩ := Int.eq_ofNat_of_zero_le (show 0 <= n by omega)
 obtain ⟨V, hV⟩ : ∃ V, V = (l.getD 0 default).view := ⟨_, rfl⟩
 obtain ⟨M, hM⟩ : ∃ M, M = (l.getD 0 default).name := ⟨_, rfl⟩
 rw [<- hV, <- hM]
 simp only [go_sem, hq2, hlt0, hlt1, <- hV, <- hM]
 refine vm_loopK (α := Nat) (fun i => [(0, .lst false 4 (l.map Vot.enc)), (3, .ptr true (.lit (.int .i64 n))), (4, .ptr true (zPrf.enc true)), (6, .ptr true (Prf.enc true ⟨V, M, gthN n V M l i, gthT n V M l i⟩)), (27, .lit (.int .i64 n)), (28, .lit (.int .i64 i))]) (fun i => i <= N) (fun i => N - i) 0 ?_ (by omega) (by kernel_rfl) (fun _ => rfl) ?_
 ·have e1 : gthN n V M l 0 = [] := rfl
  have e2 : gthT n V M l 0 = [] := rfl
  simp only [go_sem, e1, e2]
  try trivial
 ·intro i hi hk
  have hbl := gthN_len n V M l i
  have htl := gthT_len n V M l i
  have eb := gthN_succ n V M l i
  have et := gthT_succ n V M l i
  have hw3 : IntKind.i64.wrap ((i : Int) + 1) = ((i + 1 : Nat) : Int) := by rw [wrap64 (by omega) (by omega)]; omega
  simp only [go_sem]
  first | refine branch_ndec (fun h6 => ?_) (fun h6 => ?_) | refine branch_dec (fun h6 => ?_) (fun h6 => ?_) | refine branch_nbool (fun h6 => ?_) (fun h6 => ?_) | refine branch_split (fun h6 => ?_) (fun h6 => ?_)
  rotate_left
  ·have hie : i = N := by omega
   subst hie
   have hnt : n.toNat = i := by omega
   have eL : gthL n V M l = gthN n V M l i := by rw [gthL_N, hnt]
   simp only [go_sem]
   intro _
   refine call_lend ?_
   simp only [go_sem]
   refine callN.eq (ok76 n) (by simp only [go_sem]) ?_
   simp only [go_sem]
   by_cases c : ((gthN n V M l i).length : Int) < qrm n
   ·rw [gth_few (by rw [eL]; exact c)]
    simp only [go_sem, eq_true c]
    try rfl
   ·rw [gth_some hs (by rw [eL]; exact c), gthP_eq, hnt]
    simp only [go_sem, c]
    try rfl
  simp only [go_sem]
  refine call_lend ?_
  simp only [go_sem]
  refine callN.eq (ok112 l 157 [_, _, _] (vtP n V M (i : Int)) rfl rfl (fun v _ => ok157 v (i : Int) ⟨V, M, gthN n V M l i, gthT n V M l i⟩ n)) (by simp only [go_sem]) ?_
  simp only [go_sem]
  by_cases ha : 0 <= idxOf (vtP n V M (i : Int)) l
  ·obtain ⟨k, hk1, hk2, hk3⟩ := any_idx ha
   rw [idxOf_nonneg] at ha
   have htag := vtP_tag hk3
   rw [if_pos ha] at eb et
   rw [hk2]
   have k0 : (0 : Int) <= (k : Int) := by omega
   have k2 : (k : Int) < (l.length : Int) := by omega
   simp only [go_sem, k0, k2, hk1, hw3, htag]
   refine ⟨⟨by omega, by omega⟩, ⟨by omega, by omega⟩, again_intro (i + 1) (by omega) (by omega) ?_⟩
   simp only [go_sem, eb, et, List.map_append, List.map_cons, List.map_nil]
   try trivial
  ·have ha2 : ¬ l.any (vtP n V M (i : Int)) = true := fun h => ha (idxOf_nonneg.2 h)
   rw [if_neg ha2, List.append_nil] at eb et
   simp only [go_sem, ha, hw3]
   refine again_intro (i + 1) (by omega) (by omega) ?_
   simp only [go_sem, eb, et]
   try trivial
end Go.VS
set_option linter.unusedSimpArgs false
set_option linter.unusedVariables false
open Go.Proofs
set_option maxRecDepth 20000
namespace Go.VS
set_option maxHeartbeats 2000000 in
theorem ok105 (l : List Vot) (n : Int) : VCalls gz 105 [.lst false 4 (l.map Vot.enc), .lit (.int .i64 n)] none (fun y _ => y = gthA (gth n (l.getD 0 default).view (l.getD 0 default).name l)) := by
 refine VCalls.go (nt := 87) (keep := [0, 1, 4, 5, 6, 7, 8, 9, 17, 30, 36, 65, 84]) (muts := []) (mvs := [16]) [(3, .tree false (.take 0 (.take 1 (.take 2 (.take 4 (.take 5 (.take 6 (.all (.cons 3 (.all (.cons 7 (.all (.cons 8 (.all (.cons 9 (.all (.cons 10 .done .nil)) .nil)) (.cons 9 (.all (.cons 8 (.all (.cons 10 .done .nil)) .nil)) .nil))) (.cons 9 (.all (.cons 7 (.all (.cons 8 (.all (.cons 10 .done .nil)) .nil)) .nil)) .nil))) (.cons 7 (.all (.cons 3 (.all (.cons 8 (.all (.cons 9 (.all (.cons 10 .done .nil)) .nil)) (.cons 9 (.all (.cons 8 (.all (.cons 10 .done .nil)) .nil)) .nil))) (.cons 9 (.all (.cons 3 (.all (.cons 8 (.all (.cons 10 .done .nil)) .nil)) .nil)) .nil))) (.cons 9 (.all (.cons 3 (.all (.cons 7 (.all (.cons 8 (.all (.cons 10 .done .nil)) .nil)) .nil)) (.cons 7 (.all (.cons 3 (.all (.cons 8 (.all (.cons 10 .done .nil)) .nil)) .nil)) .nil))) .nil))))))))))), (14, .tree true (.take 0 (.take 1 (.take 2 (.take 3 (.all (.cons 4 (.take 5 .done) .nil)))))))] f105_at rfl (by kernel_rfl) rfl (by kernel_rfl) rfl (fun i h => by cases h) rfl ?_
 intro hok
 simp only [go_sem] at hok
 simp only [Tryz.f105, Func.code, Option.getD_some]
 simp only [go_sem]
 intro hm
 by_cases h0 : (l.length : Int) = 0
 ·have hl : l = [] := List.eq_nil_of_length_eq_zero (by omega)
  subst hl
  rw [gth_nil]
  simp only [go_sem, Int.natCast_zero, decide_true]
  try rfl
 simp only [go_sem, h0]
 refine call_lend ?_
 simp only [go_sem]
 refine callN.eq (ok59 n) (by simp only [go_sem]) ?_
 simp only [go_sem]
 cases hs : srv n
 ·rw [gth_none hs]
  simp only [go_sem]
  try rfl
 have hq : 0 < qrm n := by rw [qrm_pos]; exact hs
 have hn := srv_rng hs
 have hlt0 : 0 < l.length := by omega
 have hlt1 : (0 : Int) < (l.length : Int) := by omega
 obtain ⟨N, hN⟩ := Int.eq_ofNat_of_zero_le (show 0 <= n by omega)
 obtain ⟨V, hV⟩ : ∃ V, V = (l.getD 0 default).view := ⟨_, rfl⟩
 obtain ⟨M, hM⟩ : ∃ M, M = (l.getD 0 default).name := ⟨_, rfl⟩
 rw [<- hV, <- hM]
 simp only [go_sem, hlt0, hlt1, <- hV, <- hM]
 refine vm_loopK (α := Nat) (fun i => [(0, .lst false 4 (l.map Vot.enc)), (1, .lit (.int .i64 n)), (4, .ptr true (zPrf.enc true)), (6, .ptr true (Prf.enc true ⟨V, M, gthN n V M l i, gthT n V M l i⟩)), (7, .lit (.int .i64 i))]) (fun i => i <= N) (fun i => N - i) 0 ?_ (by omega) (by kernel_rfl) (fun _ => rfl) ?_
 ·have e1 : gthN n V M l 0 = [] := rfl
  have e2 : gthT n V M l 0 = [] := rfl
  simp only [go_sem, e1, e2]
  try trivial
 ·intro i hi hk
  have hbl := gthN_len n V M l i
  have htl := gthT_len n V M l i
  have eb := gthN_succ n V M l i
  have et := gthT_succ n V M l i
  have hw3 : IntKind.i64.wrap ((i : Int) + 1) = ((i + 1 : Nat) : Int) := by rw [wrap64 (by omega) (by omega)]; omega
  simp only [go_sem]
  first | refine branch_ndec (fun h6 => ?_) (fun h6 => ?_) | refine branch_dec (fun h6 => ?_) (fun h6 => ?_) | refine branch_nbool (fun h6 => ?_) (fun h6 => ?_) | refine branch_split (fun h6 => ?_) (fun h6 => ?_)
  rotate_left
  ·have hie : i = N := by omega
   subst hie
   have hnt : n.toNat = i := by omega
   have eL : gthL n V M l = gthN n V M l i := by rw [gthL_N, hnt]
   simp only [go_sem]
   intro _
   refine call_lend ?_
   simp only [go_sem]
   refine callN.eq (ok97 n) (by simp only [go_sem]) ?_
   simp only [go_sem]
   by_cases c : ((gthN n V M l i).length : Int) < qrm n
   ·rw [gth_few (by rw [eL]; exact c)]
    simp only [go_sem, eq_true c]
    try rfl
   ·rw [gth_some hs (by rw [eL]; exact c), gthP_eq, hnt]
    simp only [go_sem, c]
    try rfl
  simp only [go_sem]
  refine vm_loopK (α := Nat) (fun j => [(0, .lst false 4 (l.map Vot.enc)), (1, .lit (.int .i64 n)), (4, .ptr true (zPrf.enc true)), (6, .ptr true (Prf.enc true ⟨V, M, gthN n V M l i, gthT n V M l i⟩)), (7, .lit (.int .i64 i)), (8, .lit (.int .i64 j))]) (fun j => j <= l.length /\ ∀ k, k < j -> vtP n V M (i : Int) (l.getD k default) = false) (fun j => l.length - j) 0 ?_ ⟨by omega, fun k hk => by omega⟩ (by kernel_rfl) (fun _ => rfl) ?_
  ·simp only [go_sem]
   try trivial
  ·rintro j ⟨hj, he⟩ hk2
   simp only [go_sem]
   intro _
   first | refine branch_ndec (fun h7 => ?_) (fun h7 => ?_) | refine branch_dec (fun h7 => ?_) (fun h7 => ?_) | refine branch_nbool (fun h7 => ?_) (fun h7 => ?_) | refine branch_split (fun h7 => ?_) (fun h7 => ?_)
   rotate_left
   ·have hje : j = l.length := by omega
    have ha : ¬ l.any (vtP n V M (i : Int)) = true := fun h => by
     obtain ⟨v, hv, hp⟩ := List.any_eq_true.1 h
     obtain ⟨k, hk3, rfl⟩ := List.mem_iff_getElem.1 hv
     rw [getElem_D hk3, he k (by omega)] at hp
     cases hp
    rw [if_neg ha, List.append_nil] at eb et
    simp only [go_sem, hw3]
    refine again_intro (i + 1) (by omega) (by omega) ?_
    simp only [go_sem, eb, et]
    try trivial
   have hlt : j < l.length := by omega
   have j0 : (0 : Int) <= (j : Int) := by omega
   have hw4 : IntKind.i64.wrap ((j : Int) + 1) = ((j + 1 : Nat) : Int) := by rw [wrap64 (by omega) (by omega)]; omega
   simp only [go_sem, j0, hlt, h7]
   by_cases g1 : (l.getD j default).bY = (i : Int)
   rotate_left
   ·have e7 : vtP n V M (i : Int) (l.getD j default) = false := by unfold vtP; rw [decide_eq_false g1, Bool.false_and]
    simp only [go_sem, g1, hw4]
    refine again_intro (j + 1) ⟨by omega, nx he e7⟩ (by omega) ?_
    simp only [go_sem]
    try trivial
   by_cases g2 : (l.getD j default).view = V
   rotate_left
   ·have e7 : vtP n V M (i : Int) (l.getD j default) = false := by unfold vtP; rw [decide_eq_false g2, Bool.false_and, Bool.and_false]
    simp only [go_sem, eq_true g1, g2, hw4]
    refine again_intro (j + 1) ⟨by omega, nx he e7⟩ (by omega) ?_
    simp only [go_sem]
    try trivial
   by_cases g3 : (l.getD j default).name = M
   rotate_left
   ·have e7 : vtP n V M (i : Int) (l.getD j default) = false := by unfold vtP; rw [decide_eq_false g3, Bool.false_and, Bool.and_false, Bool.and_false]
    simp only [go_sem, eq_true g1, eq_true g2, g3, hw4]
    refine again_intro (j + 1) ⟨by omega, nx he e7⟩ (by omega) ?_
    simp only [go_sem]
    try trivial
   simp only [go_sem, eq_true g1, eq_true g2, eq_true g3]
   refine call_lend ?_
   simp only [go_sem]
   refine callN.eq (ok66 (l.getD j default) n) (by simp only [go_sem]) ?_
   simp only [go_sem]
   cases g4 : (l.getD j default).ok n
   ·have e7 : vtP n V M (i : Int) (l.getD j default) = false := by unfold vtP; rw [g4, Bool.and_false, Bool.and_false, Bool.and_false]
    simp only [go_sem, hw4]
    refine again_intro (j + 1) ⟨by omega, nx he e7⟩ (by omega) ?_
    simp only [go_sem]
    try trivial
   have e7 : vtP n V M (i : Int) (l.getD j default) = true := by unfold vtP; rw [decide_eq_true g1, decide_eq_true g2, decide_eq_true g3, g4]; rfl
   have ha : l.any (vtP n V M (i : Int)) = true := List.any_eq_true.2 ⟨_, getD_mem hlt, e7⟩
   have htag := vtP_tag e7
   rw [if_pos ha] at eb et
   simp only [go_sem, hw3, htag]
   refine ⟨⟨by omega, by omega⟩, ⟨by omega, by omega⟩, again_intro (i + 1) (by omega) (by omega) ?_⟩
   simp only [go_sem, eb, et, List.map_append, List.map_cons, List.map_nil]
   try trivial
end Go.VS
set_option linter.unusedSimpArgs false
set_option linter.unusedVariables false
open Go.Proofs
set_option maxRecDepth 20000
namespace Go.VS
theorem modify_strB {i : Nat} {xs : List ByteArray} {v : ByteArray} : (xs.map strA).modify i (putF [] (.lit (.string v))) = (xs.set i v).map strA := modify_enc (f := strA) rfl
attribute [go_sem] modify_strB
theorem f94_at : gz.P.funcs[94]? = some Tryz.f94 := by
 have h : Tryz.prog.funcs[94]? = some Tryz.f94 := by kernel_rfl
 exact h
theorem f51_at : gz.P.funcs[51]? = some Tryz.f51 := by
 have h : Tryz.prog.funcs[51]? = some Tryz.f51 := by kernel_rfl
 exact h
theorem f57_at : gz.P.funcs[57]? = some Tryz.f57 := by
 have h : Tryz.prog.funcs[57]? = some Tryz.f57 := by kernel_rfl
 exact h
def mtB (k : Int) : ByteArray := if k <= 0 then ⟨#[109, 48]⟩ else ⟨#[109]⟩ ++ itoaB k
theorem ok94 (n : Int) : VCalls gz 94 [.lit (.int .i64 n)] none (fun y _ => y = .lit (.string (mtB n))) := by
 refine VCalls.go (nt := 20) (keep := [0, 2, 3, 5, 7]) (muts := []) (mvs := []) [] f94_at rfl (by kernel_rfl) rfl (by kernel_rfl) rfl (fun i h => by cases h) rfl ?_
 intro hok
 simp only [go_sem] at hok
 simp only [Tryz.f94, Func.code, Option.getD_some]
 simp only [go_sem]
 first | refine branch_ndec (fun h1 => ?_) (fun h1 => ?_) | refine branch_dec (fun h1 => ?_) (fun h1 => ?_) | refine branch_nbool (fun h1 => ?_) (fun h1 => ?_) | refine branch_split (fun h1 => ?_) (fun h1 => ?_)
 ·have e : mtB n = ⟨#[109, 48]⟩ := if_pos h1
  simp only [go_sem, e]
  try trivial
 ·have e : mtB n = ⟨#[109]⟩ ++ itoaB n := if_neg h1
  simp only [go_sem]
  refine vm_loopK (α := Int × ByteArray) (fun q => [(0, .lit (.int .i64 q.1)), (3, .lit (.string q.2)), (2, .lit (.string ⟨#[]⟩))]) (fun q => WInv n q.1 q.2 /\ (q.2 = ByteArray.empty -> q.1 = n)) (fun q => q.1.natAbs) (n, ByteArray.empty) ?_ ⟨⟨fun h => h, fun h => by omega, Nat.le_refl _, .inl ⟨rfl, rfl⟩⟩, fun _ => rfl⟩ (by kernel_rfl) (fun _ => rfl) ?_
  ·simp only [go_sem]
   try trivial
  ·rintro ⟨m, s⟩ ⟨hi, he⟩ hk
   simp only at hi he
   have hm0 : 0 <= m := hi.1 (by omega)
   have hs := WInv.size hi hok
   have hm1 := hi.2.2.1
   simp only [go_sem]
   first | refine branch_ndec (fun h2 => ?_) (fun h2 => ?_) | refine branch_dec (fun h2 => ?_) (fun h2 => ?_) | refine branch_nbool (fun h2 => ?_) (fun h2 => ?_) | refine branch_split (fun h2 => ?_) (fun h2 => ?_)
   ·have hb := digit_byte (m := m) (k := m.tmod 10) (by rw [if_neg]; have := tmod_mod hm0 (show (0 : Int) < 10 by omega); omega)
    have hw : IntKind.i64.wrap (m.tdiv 10) = m.tdiv 10 := by
     have ht : (m.tdiv 10).natAbs = m.natAbs / 10 := by rw [Int.natAbs_tdiv]; rfl
     exact wrap64 (by omega) (by omega)
    simp only [go_sem, hb, hw]
    have h0 := hi.step (.inr (by omega)) _ rfl (str_cons (UInt8.ofNat (48 + m.natAbs % 10)) s)
    refine ⟨by show 1 + s.size <= 9223372036854775807
               omega, again_intro (m.tdiv 10, (⟨[UInt8.ofNat (48 + m.natAbs % 10)].toArray⟩ : ByteArray) ++ s) ⟨h0, fun hh => ?_⟩ ?_ ?_⟩
    ·have := congrArg ByteArray.size hh
     rw [ByteArray.size_append] at this
     have hz : (⟨[UInt8.ofNat (48 + m.natAbs % 10)].toArray⟩ : ByteArray).size = 1 := rfl
     rw [hz] at this
     simp at this
    ·have ht : (m.tdiv 10).natAbs = m.natAbs / 10 := by rw [Int.natAbs_tdiv]; rfl
     simp only
     omega
    ·simp only [go_sem]
     try trivial
   ·have hm : m = 0 := by omega
    subst hm
    have hne : s ≠ ByteArray.empty := fun hh => by have := he hh; omega
    have hd := hi.done hne
    have e2 : s = itoaB n := by
     apply bext
     have e3 : n.toNat = n.natAbs := by omega
     unfold itoaB Lib.itoa
     rw [if_neg (by omega), e3, hd]
    simp only [go_sem, e]
    rw [e2]
    exact ⟨by have := itoaB_size n hok
              show 1 + _ <= 9223372036854775807
              omega, rfl⟩
def mkL {α : Type} (f : α -> Int -> α × Int) : List α -> Int -> List α × Int
 | [], k => ([], k)
 | x :: xs, k => ((f x k).1 :: (mkL f xs (f x k).2).1, (mkL f xs (f x k).2).2)
def mkN {α : Type} (f : α -> Int -> α × Int) (xs : List α) (k : Int) (i : Nat) : Int := (mkL f (xs.take i) k).2
theorem mkL_length {α : Type} (f : α -> Int -> α × Int) : ∀ (xs : List α) (k : Int), (mkL f xs k).1.length = xs.length
 | [], k => rfl
 | x :: xs, k => by simp only [mkL, List.length_cons, mkL_length f xs]
theorem mkN_zero {α : Type} (f : α -> Int -> α × Int) (xs : List α) (k : Int) : mkN f xs k 0 = k := rfl
theorem mkN_all {α : Type} (f : α -> Int -> α × Int) (xs : List α) (k : Int) : mkN f xs k xs.length = (mkL f xs k).2 := by simp [mkN]
theorem mkN_succ {α : Type} [Inhabited α] (f : α -> Int -> α × Int) : ∀ (xs : List α) (k : Int) (i : Nat), i < xs.length -> mkN f xs k (i + 1) = (f (xs.getD i default) (mkN f xs k i)).2 /\ (mkL f xs k).1.getD i default = (f (xs.getD i default) (mkN f xs k i)).1
 | [], k, i, h => by simp at h
 | x :: xs, k, 0, h => by simp [mkN, mkL]
 | x :: xs, k, i + 1, h => by
  have := mkN_succ f xs (f x k).2 i (by simpa using h)
  simpa [mkN, mkL] using this
def tot {α : Type} (w : α -> Nat) (xs : List α) : Nat := (xs.map w).sum
def mkC {α : Type} (f : α -> Int -> α × Int) (w : α -> Nat) : Prop := ∀ x k, (f x k).2 = k + w x
theorem mkN_add {α : Type} (f : α -> Int -> α × Int) {w : α -> Nat} (h : mkC f w) (xs : List α) (k : Int) (i : Nat) : mkN f xs k i = k + ((xs.take i).map w).sum := by
 unfold mkN
 generalize xs.take i = ys
 induction ys generalizing k with
 | nil => simp [mkL]
 | cons y ys ih =>
  simp only [mkL, ih, h y k, List.map_cons, List.sum_cons]
  omega
theorem mkN_rng {α : Type} (f : α -> Int -> α × Int) {w : α -> Nat} (h : mkC f w) (xs : List α) (k : Int) (i : Nat) : k <= mkN f xs k i /\ mkN f xs k i <= k + (tot w xs : Nat) := by
 unfold tot
 rw [mkN_add f h]
 have : (xs.map w).sum = ((xs.take i).map w).sum + ((xs.drop i).map w).sum := by
  rw [<- List.sum_append, <- List.map_append, List.take_append_drop]
 omega
def strM (s : ByteArray) (k : Int) : ByteArray × Int := (mtB k, k + 1)
theorem strM_c : mkC strM (fun _ => 1) := fun x k => rfl
theorem ok51 (xs : List ByteArray) (k : Int) (h1 : 0 <= k) (h2 : k + (tot (fun _ => 1) xs : Nat) <= 4611686018427387904) :
  VMut gz 51 [.lst true 1 (xs.map strA), .lit (.int .i64 k)] 0 (fun y x' => y = .lit (.int .i64 (mkL strM xs k).2) /\ x' = .lst true 1 ((mkL strM xs k).1.map strA)) := by
 refine VMut.go (nt := 20) (keep := [0, 1, 4, 5, 9]) (i := 0) (mvs := []) [] f51_at rfl (by kernel_rfl) rfl (by kernel_rfl) rfl rfl rfl ?_
 intro hok
 simp only [go_sem] at hok
 simp only [Tryz.f51, Func.code, Option.getD_some]
 simp only [go_sem]
 have hM := mkL_length strM xs k
 refine vm_loopK (α := Nat) (fun i => [(0, .lst true 1 ((midL (mkL strM xs k).1 xs i).map strA)), (1, .lit (.int .i64 (mkN strM xs k i))), (4, .lit (.int .i64 0)), (5, .lit (.int .i64 i))]) (fun i => i <= xs.length) (fun i => xs.length - i) 0 ?_ (by omega) (by kernel_rfl) (fun _ => rfl) ?_
 ·simp only [go_sem, midL_zero, mkN_zero]
  try trivial
 ·intro i hi hk
  have hml : (midL (mkL strM xs k).1 xs i).length = xs.length := (midL_length (by omega) hM.symm).trans hM
  simp only [go_sem, hml]
  intro _
  first | refine branch_ndec (fun h3 => ?_) (fun h3 => ?_) | refine branch_dec (fun h3 => ?_) (fun h3 => ?_) | refine branch_nbool (fun h3 => ?_) (fun h3 => ?_) | refine branch_split (fun h3 => ?_) (fun h3 => ?_)
  ·have hlt : i < xs.length := by omega
   have h0 : (0 : Int) <= (i : Int) := by omega
   have hs := mkN_succ strM xs k i hlt
   have hr := mkN_rng strM strM_c xs k i
   have hr2 := mkN_rng strM strM_c xs k (i + 1)
   have hw3 : IntKind.i64.wrap ((i : Int) + 1) = ((i + 1 : Nat) : Int) := by rw [wrap64 (by omega) (by omega)]; omega
   have hset : (midL (mkL strM xs k).1 xs i).set i (mtB (mkN strM xs k i)) = midL (mkL strM xs k).1 xs (i + 1) := by
    rw [<- modify_set]
    exact midL_mod (by omega) hM.symm hs.2.symm
   have hw4 : IntKind.i64.wrap (mkN strM xs k i + 1) = mkN strM xs k (i + 1) := by rw [wrap64 (by omega) (by omega)]; exact hs.1.symm
   simp only [go_sem, h0, h3, hml]
   refine call_lend ?_
   simp only [go_sem]
   refine callN.eq (ok94 (mkN strM xs k i)) (by simp only [go_sem]) ?_
   simp only [go_sem]
   simp only [go_sem, h0, h3, hml, hlt, hset, hw3, hw4]
   refine again_intro (i + 1) (by omega) (by omega) ?_
   simp only [go_sem]
   try trivial
  ·simp only [go_sem]
   have : i = xs.length := by omega
   subst this
   have e : midL (mkL strM xs k).1 xs xs.length = (mkL strM xs k).1 := by
    have := midL_all (mkL strM xs k).1 hM.symm
    rwa [hM] at this
   rw [mkN_all, e]
   simp only [go_sem]
   try trivial
theorem ok57 (xs : List ByteArray) (k : Int) (h1 : 0 <= k) (h2 : k + (tot (fun _ => 1) xs : Nat) <= 4611686018427387904) :
  VCalls gz 57 [.lst false 1 ((mkL strM xs k).1.map strA), .lit (.int .i64 k)] none (fun y _ => y = .lit (.int .i64 (mkL strM xs k).2)) := by
 refine VCalls.go (nt := 22) (keep := [0, 1, 4, 5, 9, 18]) (muts := []) (mvs := []) [(4, .tree true (.take 0 (.take 1 (.take 2 (.take 3 (.take 4 (.all (.cons 5 (.take 6 .done) .nil))))))))] f57_at rfl (by kernel_rfl) rfl (by kernel_rfl) rfl (fun i h => by cases h) rfl ?_
 intro hok
 simp only [go_sem] at hok
 simp only [Tryz.f57, Func.code, Option.getD_some]
 simp only [go_sem]
 have hM := mkL_length strM xs k
 refine vm_loopK (α := Nat) (fun i => [(0, .lst false 1 ((mkL strM xs k).1.map strA)), (1, .lit (.int .i64 (mkN strM xs k i))), (4, .lit (.int .i64 0)), (5, .lit (.int .i64 i))]) (fun i => i <= xs.length) (fun i => xs.length - i) 0 ?_ (by omega) (by kernel_rfl) (fun _ => rfl) ?_
 ·simp only [go_sem, mkN_zero]
  try trivial
 ·intro i hi hk
  simp only [go_sem, hM]
  intro _
  first | refine branch_ndec (fun h3 => ?_) (fun h3 => ?_) | refine branch_dec (fun h3 => ?_) (fun h3 => ?_) | refine branch_nbool (fun h3 => ?_) (fun h3 => ?_) | refine branch_split (fun h3 => ?_) (fun h3 => ?_)
  ·have hlt : i < xs.length := by omega
   have h0 : (0 : Int) <= (i : Int) := by omega
   have hs := mkN_succ strM xs k i hlt
   have hr := mkN_rng strM strM_c xs k i
   have hr2 := mkN_rng strM strM_c xs k (i + 1)
   have hw3 : IntKind.i64.wrap ((i : Int) + 1) = ((i + 1 : Nat) : Int) := by rw [wrap64 (by omega) (by omega)]; omega
   have hw4 : IntKind.i64.wrap (mkN strM xs k i + 1) = mkN strM xs k (i + 1) := by rw [wrap64 (by omega) (by omega)]; exact hs.1.symm
   have hv : (mkL strM xs k).1.getD i default = mtB (mkN strM xs k i) := hs.2
   simp only [go_sem, h0, h3, hM, hlt, hv]
   repeat' refine And.intro ?_ ?_
   all_goals
    refine call_lend ?_
    simp only [go_sem]
    refine callN.eq (ok94 (mkN strM xs k i)) (by simp only [go_sem]) ?_
    simp only [go_sem]
    simp only [go_sem, h0, h3, hM, hlt, hv, hw3, hw4]
    refine again_intro (i + 1) (by omega) (by omega) ?_
    simp only [go_sem]
    try trivial
  ·simp only [go_sem]
   have : i = xs.length := by omega
   subst this
   rw [mkN_all]
theorem modify_flds {α : Type} {f : α -> AVal} {xs : List α} {i : Nat} {g : AVal -> AVal} (h : α -> α) (e : ∀ x, g (f x) = f (h x)) : (xs.map f).modify i g = (xs.modify i h).map f := by
 apply List.ext_getElem?
 intro j
 simp only [List.getElem?_modify, List.getElem?_map]
 cases xs[j]? with
 | none => rfl
 | some x => by_cases hj : i = j <;> simp [hj, e]
theorem modify_two {α : Type} {xs : List α} {i : Nat} {g h : α -> α} : (xs.modify i g).modify i h = xs.modify i (fun x => h (g x)) := by
 apply List.ext_getElem?
 intro j
 simp only [List.getElem?_modify]
 cases xs[j]? with
 | none => rfl
 | some x => by_cases hj : i = j <;> simp [hj]
attribute [go_sem] modify_two List.length_modify
end Go.VS
set_option linter.unusedSimpArgs false
set_option linter.unusedVariables false
open Go.Proofs
set_option maxRecDepth 20000
namespace Go.VS
theorem f49_at : gz.P.funcs[49]? = some Tryz.f49 := by
 have h : Tryz.prog.funcs[49]? = some Tryz.f49 := by kernel_rfl
 exact h
theorem f56_at : gz.P.funcs[56]? = some Tryz.f56 := by
 have h : Tryz.prog.funcs[56]? = some Tryz.f56 := by kernel_rfl
 exact h
theorem f47_at : gz.P.funcs[47]? = some Tryz.f47 := by
 have h : Tryz.prog.funcs[47]? = some Tryz.f47 := by kernel_rfl
 exact h
theorem f54_at : gz.P.funcs[54]? = some Tryz.f54 := by
 have h : Tryz.prog.funcs[54]? = some Tryz.f54 := by kernel_rfl
 exact h
theorem f48_at : gz.P.funcs[48]? = some Tryz.f48 := by
 have h : Tryz.prog.funcs[48]? = some Tryz.f48 := by kernel_rfl
 exact h
theorem f55_at : gz.P.funcs[55]? = some Tryz.f55 := by
 have h : Tryz.prog.funcs[55]? = some Tryz.f55 := by kernel_rfl
 exact h
theorem modify_intB {i : Nat} {xs : List Int} {v : Int} : (xs.map intA).modify i (putF [] (.lit (.int .i64 v))) = (xs.set i v).map intA := modify_enc (f := intA) rfl
attribute [go_sem] modify_intB
def intM (x : Int) (k : Int) : Int × Int := (k, k + 1)
theorem intM_c : mkC intM (fun _ => 1) := fun x k => rfl
theorem ok49 (xs : List Int) (k : Int) (h1 : 0 <= k) (h2 : k + (tot (fun _ => 1) xs : Nat) <= 4611686018427387904) :
  VMut gz 49 [.lst true 1 (xs.map intA), .lit (.int .i64 k)] 0 (fun y x' => y = .lit (.int .i64 (mkL intM xs k).2) /\ x' = .lst true 1 ((mkL intM xs k).1.map intA)) := by
 refine VMut.go (nt := 19) (keep := [0, 1, 4, 5, 9]) (i := 0) (mvs := []) [] f49_at rfl (by kernel_rfl) rfl (by kernel_rfl) rfl rfl rfl ?_
 intro hok
 simp only [go_sem] at hok
 simp only [Tryz.f49, Func.code, Option.getD_some]
 simp only [go_sem]
 have hM := mkL_length intM xs k
 refine vm_loopK (α := Nat) (fun i => [(0, .lst true 1 ((midL (mkL intM xs k).1 xs i).map intA)), (1, .lit (.int .i64 (mkN intM xs k i))), (4, .lit (.int .i64 0)), (5, .lit (.int .i64 i))]) (fun i => i <= xs.length) (fun i => xs.length - i) 0 ?_ (by omega) (by kernel_rfl) (fun _ => rfl) ?_
 ·simp only [go_sem, midL_zero, mkN_zero]
  try trivial
 ·intro i hi hk
  have hml : (midL (mkL intM xs k).1 xs i).length = xs.length := (midL_length (by omega) hM.symm).trans hM
  simp only [go_sem, hml]
  intro _
  first | refine branch_ndec (fun h3 => ?_) (fun h3 => ?_) | refine branch_dec (fun h3 => ?_) (fun h3 => ?_) | refine branch_nbool (fun h3 => ?_) (fun h3 => ?_) | refine branch_split (fun h3 => ?_) (fun h3 => ?_)
  ·have hlt : i < xs.length := by omega
   have h0 : (0 : Int) <= (i : Int) := by omega
   have hs := mkN_succ intM xs k i hlt
   have hr := mkN_rng intM intM_c xs k i
   have hr2 := mkN_rng intM intM_c xs k (i + 1)
   have hw3 : IntKind.i64.wrap ((i : Int) + 1) = ((i + 1 : Nat) : Int) := by rw [wrap64 (by omega) (by omega)]; omega
   have hset : (midL (mkL intM xs k).1 xs i).set i (mkN intM xs k i) = midL (mkL intM xs k).1 xs (i + 1) := by
    rw [<- modify_set]
    exact midL_mod (by omega) hM.symm hs.2.symm
   have hw4 : IntKind.i64.wrap (mkN intM xs k i + 1) = mkN intM xs k (i + 1) := by rw [wrap64 (by omega) (by omega)]; exact hs.1.symm
   simp only [go_sem, h0, h3, hml, hlt, hset, hw3, hw4]
   refine again_intro (i + 1) (by omega) (by omega) ?_
   simp only [go_sem]
   try trivial
  ·simp only [go_sem]
   have : i = xs.length := by omega
   subst this
   have e : midL (mkL intM xs k).1 xs xs.length = (mkL intM xs k).1 := by
    have := midL_all (mkL intM xs k).1 hM.symm
    rwa [hM] at this
   rw [mkN_all, e]
   simp only [go_sem]
   try trivial
theorem ok56 (xs : List Int) (k : Int) (h1 : 0 <= k) (h2 : k + (tot (fun _ => 1) xs : Nat) <= 4611686018427387904) :
  VCalls gz 56 [.lst false 1 ((mkL intM xs k).1.map intA), .lit (.int .i64 k)] none (fun y _ => y = .lit (.int .i64 (mkL intM xs k).2)) := by
 refine VCalls.go (nt := 21) (keep := [0, 1, 4, 5, 9, 17]) (muts := []) (mvs := []) [] f56_at rfl (by kernel_rfl) rfl (by kernel_rfl) rfl (fun i h => by cases h) rfl ?_
 intro hok
 simp only [go_sem] at hok
 simp only [Tryz.f56, Func.code, Option.getD_some]
 simp only [go_sem]
 have hM := mkL_length intM xs k
 refine vm_loopK (α := Nat) (fun i => [(0, .lst false 1 ((mkL intM xs k).1.map intA)), (1, .lit (.int .i64 (mkN intM xs k i))), (4, .lit (.int .i64 0)), (5, .lit (.int .i64 i))]) (fun i => i <= xs.length) (fun i => xs.length - i) 0 ?_ (by omega) (by kernel_rfl) (fun _ => rfl) ?_
 ·simp only [go_sem, mkN_zero]
  try trivial
 ·intro i hi hk
  simp only [go_sem, hM]
  intro _
  first | refine branch_ndec (fun h3 => ?_) (fun h3 => ?_) | refine branch_dec (fun h3 => ?_) (fun h3 => ?_) | refine branch_nbool (fun h3 => ?_) (fun h3 => ?_) | refine branch_split (fun h3 => ?_) (fun h3 => ?_)
  ·have hlt : i < xs.length := by omega
   have h0 : (0 : Int) <= (i : Int) := by omega
   have hs := mkN_succ intM xs k i hlt
   have hr := mkN_rng intM intM_c xs k i
   have hr2 := mkN_rng intM intM_c xs k (i + 1)
   have hw3 : IntKind.i64.wrap ((i : Int) + 1) = ((i + 1 : Nat) : Int) := by rw [wrap64 (by omega) (by omega)]; omega
   have hw4 : IntKind.i64.wrap (mkN intM xs k i + 1) = mkN intM xs k (i + 1) := by rw [wrap64 (by omega) (by omega)]; exact hs.1.symm
   have hv : (mkL intM xs k).1.getD i default = mkN intM xs k i := hs.2
   simp only [go_sem, h0, h3, hM, hlt, hv, hw3, hw4]
   repeat' refine And.intro ?_ ?_
   all_goals
    refine again_intro (i + 1) (by omega) (by omega) ?_
    simp only [go_sem]
    try trivial
  ·simp only [go_sem]
   have : i = xs.length := by omega
   subst this
   rw [mkN_all]
theorem Vot.put0 {xs : List Vot} {i : Nat} {a : Int} : (xs.map Vot.enc).modify i (putF [0] (.lit (.int .i64 a))) = (xs.modify i (fun p => { p with view := a })).map Vot.enc := modify_flds _ fun x => rfl
theorem Vot.put1 {xs : List Vot} {i : Nat} {a : Int} : (xs.map Vot.enc).modify i (putF [1] (.lit (.int .i64 a))) = (xs.modify i (fun p => { p with name := a })).map Vot.enc := modify_flds _ fun x => rfl
theorem Vot.put2 {xs : List Vot} {i : Nat} {a : Int} : (xs.map Vot.enc).modify i (putF [2] (.lit (.int .i64 a))) = (xs.modify i (fun p => { p with bY := a })).map Vot.enc := modify_flds _ fun x => rfl
theorem Vot.put3 {xs : List Vot} {i : Nat} {a : Int} : (xs.map Vot.enc).modify i (putF [3] (.lit (.int .i64 a))) = (xs.modify i (fun p => { p with tag := a })).map Vot.enc := modify_flds _ fun x => rfl
theorem Nws.put0 {xs : List Nws} {i : Nat} {a : Int} : (xs.map Nws.enc).modify i (putF [0] (.lit (.int .i64 a))) = (xs.modify i (fun p => { p with view := a })).map Nws.enc := modify_flds _ fun x => rfl
theorem Nws.put1 {xs : List Nws} {i : Nat} {a : Int} : (xs.map Nws.enc).modify i (putF [1] (.lit (.int .i64 a))) = (xs.modify i (fun p => { p with src := a })).map Nws.enc := modify_flds _ fun x => rfl
attribute [go_sem] Vot.put0 Vot.put1 Vot.put2 Vot.put3 Nws.put0 Nws.put1
def Vot.mk4 (v : Vot) (k : Int) : Vot × Int := (⟨k, k + 1, k + 2, k + 3⟩, k + 4)
theorem Vot.mk4_c : mkC Vot.mk4 (fun _ => 4) := fun x k => rfl
def Nws.mk2 (v : Nws) (k : Int) : Nws × Int := (⟨k, k + 1⟩, k + 2)
theorem Nws.mk2_c : mkC Nws.mk2 (fun _ => 2) := fun x k => rfl
theorem ok47 (xs : List Vot) (k : Int) (h1 : 0 <= k) (h2 : k + (tot (fun _ => 4) xs : Nat) <= 4611686018427387904) :
  VMut gz 47 [.lst true 4 (xs.map Vot.enc), .lit (.int .i64 k)] 0 (fun y x' => y = .lit (.int .i64 (mkL Vot.mk4 xs k).2) /\ x' = .lst true 4 ((mkL Vot.mk4 xs k).1.map Vot.enc)) := by
 refine VMut.go (nt := 41) (keep := [0, 1, 4, 5, 9]) (i := 0) (mvs := []) [] f47_at rfl (by kernel_rfl) rfl (by kernel_rfl) rfl rfl rfl ?_
 intro hok
 simp only [go_sem] at hok
 simp only [Tryz.f47, Func.code, Option.getD_some]
 simp only [go_sem]
 have hM := mkL_length Vot.mk4 xs k
 refine vm_loopK (α := Nat) (fun i => [(0, .lst true 4 ((midL (mkL Vot.mk4 xs k).1 xs i).map Vot.enc)), (1, .lit (.int .i64 (mkN Vot.mk4 xs k i))), (4, .lit (.int .i64 0)), (5, .lit (.int .i64 i))]) (fun i => i <= xs.length) (fun i => xs.length - i) 0 ?_ (by omega) (by kernel_rfl) (fun _ => rfl) ?_
 ·simp only [go_sem, midL_zero, mkN_zero]
  try trivial
 ·intro i hi hk
  have hml : (midL (mkL Vot.mk4 xs k).1 xs i).length = xs.length := (midL_length (by omega) hM.symm).trans hM
  simp only [go_sem, hml]
  intro _
  first | refine branch_ndec (fun h3 => ?_) (fun h3 => ?_) | refine branch_dec (fun h3 => ?_) (fun h3 => ?_) | refine branch_nbool (fun h3 => ?_) (fun h3 => ?_) | refine branch_split (fun h3 => ?_) (fun h3 => ?_)
  ·have hlt : i < xs.length := by omega
   have h0 : (0 : Int) <= (i : Int) := by omega
   have hs := mkN_succ Vot.mk4 xs k i hlt
   have hr := mkN_rng Vot.mk4 Vot.mk4_c xs k i
   have hr2 := mkN_rng Vot.mk4 Vot.mk4_c xs k (i + 1)
   have hw3 : IntKind.i64.wrap ((i : Int) + 1) = ((i + 1 : Nat) : Int) := by rw [wrap64 (by omega) (by omega)]; omega
   have hset : (midL (mkL Vot.mk4 xs k).1 xs i).modify i (fun x => ⟨mkN Vot.mk4 xs k i, mkN Vot.mk4 xs k i + 1, mkN Vot.mk4 xs k i + 2, mkN Vot.mk4 xs k i + 3⟩) = midL (mkL Vot.mk4 xs k).1 xs (i + 1) := midL_mod (by omega) hM.symm hs.2.symm
   rw [show mkN Vot.mk4 xs k i = mkN Vot.mk4 xs k i from rfl] at hset
   have hs1 := hs.1
   simp only [Vot.mk4] at hs1
   obtain ⟨K, hK⟩ : ∃ K, K = mkN Vot.mk4 xs k i := ⟨_, rfl⟩
   rw [<- hK] at hs hs1 hr ⊢
   have w1 : IntKind.i64.wrap (K + 1) = K + 1 := wrap64 (by omega) (by omega)
   have w2 : IntKind.i64.wrap (K + 2) = K + 2 := wrap64 (by omega) (by omega)
   have w3 : IntKind.i64.wrap (K + 1 + 1) = K + 2 := by rw [wrap64 (by omega) (by omega)]; omega
   have w4 : IntKind.i64.wrap (K + 2 + 1) = K + 3 := by rw [wrap64 (by omega) (by omega)]; omega
   have w5 : IntKind.i64.wrap (K + 3 + 1) = K + 4 := by rw [wrap64 (by omega) (by omega)]; omega
   rw [<- hK] at hset
   simp only [go_sem, h0, h3, hml, hlt, hw3, w1, w3, w4, w5]
   refine again_intro (i + 1) (by omega) (by omega) ?_
   simp only [go_sem, hset, hs1]
   try trivial
  ·simp only [go_sem]
   have : i = xs.length := by omega
   subst this
   have e : midL (mkL Vot.mk4 xs k).1 xs xs.length = (mkL Vot.mk4 xs k).1 := by
    have := midL_all (mkL Vot.mk4 xs k).1 hM.symm
    rwa [hM] at this
   rw [mkN_all, e]
   simp only [go_sem]
   try trivial
theorem ok54 (xs : List Vot) (k : Int) (h1 : 0 <= k) (h2 : k + (tot (fun _ => 4) xs : Nat) <= 4611686018427387904) :
  VCalls gz 54 [.lst false 4 ((mkL Vot.mk4 xs k).1.map Vot.enc), .lit (.int .i64 k)] none (fun y _ => y = .lit (.int .i64 (mkL Vot.mk4 xs k).2)) := by
 refine VCalls.go (nt := 49) (keep := [0, 1, 4, 5, 9, 18, 27, 36, 45]) (muts := []) (mvs := []) [] f54_at rfl (by kernel_rfl) rfl (by kernel_rfl) rfl (fun i h => by cases h) rfl ?_
 intro hok
 simp only [go_sem] at hok
 simp only [Tryz.f54, Func.code, Option.getD_some]
 simp only [go_sem]
 have hM := mkL_length Vot.mk4 xs k
 refine vm_loopK (α := Nat) (fun i => [(0, .lst false 4 ((mkL Vot.mk4 xs k).1.map Vot.enc)), (1, .lit (.int .i64 (mkN Vot.mk4 xs k i))), (4, .lit (.int .i64 0)), (5, .lit (.int .i64 i))]) (fun i => i <= xs.length) (fun i => xs.length - i) 0 ?_ (by omega) (by kernel_rfl) (fun _ => rfl) ?_
 ·simp only [go_sem, mkN_zero]
  try trivial
 ·intro i hi hk
  simp only [go_sem, hM]
  intro _
  first | refine branch_ndec (fun h3 => ?_) (fun h3 => ?_) | refine branch_dec (fun h3 => ?_) (fun h3 => ?_) | refine branch_nbool (fun h3 => ?_) (fun h3 => ?_) | refine branch_split (fun h3 => ?_) (fun h3 => ?_)
  ·have hlt : i < xs.length := by omega
   have h0 : (0 : Int) <= (i : Int) := by omega
   have hs := mkN_succ Vot.mk4 xs k i hlt
   have hr := mkN_rng Vot.mk4 Vot.mk4_c xs k i
   have hr2 := mkN_rng Vot.mk4 Vot.mk4_c xs k (i + 1)
   have hw3 : IntKind.i64.wrap ((i : Int) + 1) = ((i + 1 : Nat) : Int) := by rw [wrap64 (by omega) (by omega)]; omega
   have hs1 := hs.1
   simp only [Vot.mk4] at hs1
   obtain ⟨K, hK⟩ : ∃ K, K = mkN Vot.mk4 xs k i := ⟨_, rfl⟩
   rw [<- hK] at hs hs1 hr ⊢
   have w1 : IntKind.i64.wrap (K + 1) = K + 1 := wrap64 (by omega) (by omega)
   have w2 : IntKind.i64.wrap (K + 2) = K + 2 := wrap64 (by omega) (by omega)
   have w3 : IntKind.i64.wrap (K + 1 + 1) = K + 2 := by rw [wrap64 (by omega) (by omega)]; omega
   have w4 : IntKind.i64.wrap (K + 2 + 1) = K + 3 := by rw [wrap64 (by omega) (by omega)]; omega
   have w5 : IntKind.i64.wrap (K + 3 + 1) = K + 4 := by rw [wrap64 (by omega) (by omega)]; omega
   have hv : (mkL Vot.mk4 xs k).1.getD i default = ⟨K, K + 1, K + 2, K + 3⟩ := hs.2
   simp only [go_sem, h0, h3, hM, hlt, hv, hw3, w1, w3, w4, w5]
   repeat' refine And.intro ?_ ?_
   all_goals
    refine again_intro (i + 1) (by omega) (by omega) ?_
    simp only [go_sem, hs1]
    try trivial
  ·simp only [go_sem]
   have : i = xs.length := by omega
   subst this
   rw [mkN_all]
theorem ok48 (xs : List Nws) (k : Int) (h1 : 0 <= k) (h2 : k + (tot (fun _ => 2) xs : Nat) <= 4611686018427387904) :
  VMut gz 48 [.lst true 2 (xs.map Nws.enc), .lit (.int .i64 k)] 0 (fun y x' => y = .lit (.int .i64 (mkL Nws.mk2 xs k).2) /\ x' = .lst true 2 ((mkL Nws.mk2 xs k).1.map Nws.enc)) := by
 refine VMut.go (nt := 27) (keep := [0, 1, 4, 5, 9]) (i := 0) (mvs := []) [] f48_at rfl (by kernel_rfl) rfl (by kernel_rfl) rfl rfl rfl ?_
 intro hok
 simp only [go_sem] at hok
 simp only [Tryz.f48, Func.code, Option.getD_some]
 simp only [go_sem]
 have hM := mkL_length Nws.mk2 xs k
 refine vm_loopK (α := Nat) (fun i => [(0, .lst true 2 ((midL (mkL Nws.mk2 xs k).1 xs i).map Nws.enc)), (1, .lit (.int .i64 (mkN Nws.mk2 xs k i))), (4, .lit (.int .i64 0)), (5, .lit (.int .i64 i))]) (fun i => i <= xs.length) (fun i => xs.length - i) 0 ?_ (by omega) (by kernel_rfl) (fun _ => rfl) ?_
 ·simp only [go_sem, midL_zero, mkN_zero]
  try trivial
 ·intro i hi hk
  have hml : (midL (mkL Nws.mk2 xs k).1 xs i).length = xs.length := (midL_length (by omega) hM.symm).trans hM
  simp only [go_sem, hml]
  intro _
  first | refine branch_ndec (fun h3 => ?_) (fun h3 => ?_) | refine branch_dec (fun h3 => ?_) (fun h3 => ?_) | refine branch_nbool (fun h3 => ?_) (fun h3 => ?_) | refine branch_split (fun h3 => ?_) (fun h3 => ?_)
  ·have hlt : i < xs.length := by omega
   have h0 : (0 : Int) <= (i : Int) := by omega
   have hs := mkN_succ Nws.mk2 xs k i hlt
   have hr := mkN_rng Nws.mk2 Nws.mk2_c xs k i
   have hr2 := mkN_rng Nws.mk2 Nws.mk2_c xs k (i + 1)
   have hw3 : IntKind.i64.wrap ((i : Int) + 1) = ((i + 1 : Nat) : Int) := by rw [wrap64 (by omega) (by omega)]; omega
   have hset : (midL (mkL Nws.mk2 xs k).1 xs i).modify i (fun x => ⟨mkN Nws.mk2 xs k i, mkN Nws.mk2 xs k i + 1⟩) = midL (mkL Nws.mk2 xs k).1 xs (i + 1) := midL_mod (by omega) hM.symm hs.2.symm
   have hs1 := hs.1
   simp only [Nws.mk2] at hs1
   obtain ⟨K, hK⟩ : ∃ K, K = mkN Nws.mk2 xs k i := ⟨_, rfl⟩
   rw [<- hK] at hs hs1 hr ⊢
   have w1 : IntKind.i64.wrap (K + 1) = K + 1 := wrap64 (by omega) (by omega)
   have w2 : IntKind.i64.wrap (K + 2) = K + 2 := wrap64 (by omega) (by omega)
   have w3 : IntKind.i64.wrap (K + 1 + 1) = K + 2 := by rw [wrap64 (by omega) (by omega)]; omega
   have w4 : IntKind.i64.wrap (K + 2 + 1) = K + 3 := by rw [wrap64 (by omega) (by omega)]; omega
   have w5 : IntKind.i64.wrap (K + 3 + 1) = K + 4 := by rw [wrap64 (by omega) (by omega)]; omega
   rw [<- hK] at hset
   simp only [go_sem, h0, h3, hml, hlt, hw3, w1, w3, w4, w5]
   refine again_intro (i + 1) (by omega) (by omega) ?_
   simp only [go_sem, hset, hs1]
   try trivial
  ·simp only [go_sem]
   have : i = xs.length := by omega
   subst this
   have e : midL (mkL Nws.mk2 xs k).1 xs xs.length = (mkL Nws.mk2 xs k).1 := by
    have := midL_all (mkL Nws.mk2 xs k).1 hM.symm
    rwa [hM] at this
   rw [mkN_all, e]
   simp only [go_sem]
   try trivial
theorem ok55 (xs : List Nws) (k : Int) (h1 : 0 <= k) (h2 : k + (tot (fun _ => 2) xs : Nat) <= 4611686018427387904) :
  VCalls gz 55 [.lst false 2 ((mkL Nws.mk2 xs k).1.map Nws.enc), .lit (.int .i64 k)] none (fun y _ => y = .lit (.int .i64 (mkL Nws.mk2 xs k).2)) := by
 refine VCalls.go (nt := 31) (keep := [0, 1, 4, 5, 9, 18, 27]) (muts := []) (mvs := []) [] f55_at rfl (by kernel_rfl) rfl (by kernel_rfl) rfl (fun i h => by cases h) rfl ?_
 intro hok
 simp only [go_sem] at hok
 simp only [Tryz.f55, Func.code, Option.getD_some]
 simp only [go_sem]
 have hM := mkL_length Nws.mk2 xs k
 refine vm_loopK (α := Nat) (fun i => [(0, .lst false 2 ((mkL Nws.mk2 xs k).1.map Nws.enc)), (1, .lit (.int .i64 (mkN Nws.mk2 xs k i))), (4, .lit (.int .i64 0)), (5, .lit (.int .i64 i))]) (fun i => i <= xs.length) (fun i => xs.length - i) 0 ?_ (by omega) (by kernel_rfl) (fun _ => rfl) ?_
 ·simp only [go_sem, mkN_zero]
  try trivial
 ·intro i hi hk
  simp only [go_sem, hM]
  intro _
  first | refine branch_ndec (fun h3 => ?_) (fun h3 => ?_) | refine branch_dec (fun h3 => ?_) (fun h3 => ?_) | refine branch_nbool (fun h3 => ?_) (fun h3 => ?_) | refine branch_split (fun h3 => ?_) (fun h3 => ?_)
  ·have hlt : i < xs.length := by omega
   have h0 : (0 : Int) <= (i : Int) := by omega
   have hs := mkN_succ Nws.mk2 xs k i hlt
   have hr := mkN_rng Nws.mk2 Nws.mk2_c xs k i
   have hr2 := mkN_rng Nws.mk2 Nws.mk2_c xs k (i + 1)
   have hw3 : IntKind.i64.wrap ((i : Int) + 1) = ((i + 1 : Nat) : Int) := by rw [wrap64 (by omega) (by omega)]; omega
   have hs1 := hs.1
   simp only [Nws.mk2] at hs1
   obtain ⟨K, hK⟩ : ∃ K, K = mkN Nws.mk2 xs k i := ⟨_, rfl⟩
   rw [<- hK] at hs hs1 hr ⊢
   have w1 : IntKind.i64.wrap (K + 1) = K + 1 := wrap64 (by omega) (by omega)
   have w2 : IntKind.i64.wrap (K + 2) = K + 2 := wrap64 (by omega) (by omega)
   have w3 : IntKind.i64.wrap (K + 1 + 1) = K + 2 := by rw [wrap64 (by omega) (by omega)]; omega
   have w4 : IntKind.i64.wrap (K + 2 + 1) = K + 3 := by rw [wrap64 (by omega) (by omega)]; omega
   have w5 : IntKind.i64.wrap (K + 3 + 1) = K + 4 := by rw [wrap64 (by omega) (by omega)]; omega
   have hv : (mkL Nws.mk2 xs k).1.getD i default = ⟨K, K + 1⟩ := hs.2
   simp only [go_sem, h0, h3, hM, hlt, hv, hw3, w1, w3, w4, w5]
   repeat' refine And.intro ?_ ?_
   all_goals
    refine again_intro (i + 1) (by omega) (by omega) ?_
    simp only [go_sem, hs1]
    try trivial
  ·simp only [go_sem]
   have : i = xs.length := by omega
   subst this
   rw [mkN_all]
end Go.VS
set_option linter.unusedSimpArgs false
set_option linter.unusedVariables false
open Go.Proofs
set_option maxRecDepth 20000
namespace Go.VS
theorem f158_at : gz.P.funcs[158]? = some Tryz.f158 := by
 have h : Tryz.prog.funcs[158]? = some Tryz.f158 := by kernel_rfl
 exact h
theorem f107_at : gz.P.funcs[107]? = some Tryz.f107 := by
 have h : Tryz.prog.funcs[107]? = some Tryz.f107 := by kernel_rfl
 exact h
theorem set_getD {α : Type} [Inhabited α] {xs : List α} {i k : Nat} {v : α} (hk : k < xs.length) : (xs.set i v).getD k default = if i = k then v else xs.getD k default := by
 simp only [List.getD_eq_getElem?_getD, List.getElem?_set]
 by_cases h : i = k
 ·subst h
  simp [hk]
 ·simp [h]
theorem ok162 (l : List Int) (hl : l.length <= 1099511627776) : VMut gz 162 [.lst true 1 (l.map intA)] 0 (fun y x' => y = .tup [] /\ x' = .lst true 1 (l.reverse.map intA)) := by
 refine VMut.go (nt := 28) (keep := [0, 2, 3, 9]) (i := 0) (mvs := []) [(3, .tree false (.take 0 (.take 1 (.take 2 (.take 3 (.take 4 (.take 5 (.take 6 (.take 8 (.take 9 (.take 10 (.all (.cons 7 (.all (.cons 11 (.take 12 (.all (.cons 13 (.take 14 (.all (.cons 15 .done .nil))) .nil))) .nil)) (.cons 11 (.all (.cons 7 (.take 12 (.all (.cons 13 (.take 14 (.all (.cons 15 .done .nil))) .nil))) .nil)) .nil))))))))))))))] f162_at rfl (by kernel_rfl) rfl (by kernel_rfl) rfl rfl rfl ?_
 intro hok
 simp only [go_sem] at hok
 simp only [Tryz.f162, Func.code, Option.getD_some]
 simp only [go_sem]
 intro hm
 have hw1 : IntKind.i64.wrap ((l.length : Int) - 1) = (l.length : Int) - 1 := wrap64 (by omega) (by omega)
 refine vm_loopK (α := List Int × Nat) (fun q => [(0, .lst true 1 (q.1.map intA)), (2, .lit (.int .i64 q.2)), (3, .lit (.int .i64 ((l.length : Int) - 1 - q.2)))]) (fun q => q.1.length = l.length /\ q.2 <= l.length /\ (2 * q.2 <= l.length + 1) /\ ∀ k, k < l.length -> q.1.getD k default = if k < q.2 \/ l.length < k + 1 + q.2 then l.getD (l.length - 1 - k) default else l.getD k default) (fun q => l.length - q.2) (l, 0) ?_ ⟨rfl, by simp, by simp, fun k hk => by rw [if_neg (by simp only; omega)]⟩ (by kernel_rfl) (fun _ => rfl) ?_
 ·simp only [go_sem, hw1]
  try simp
 ·rintro ⟨m, i⟩ ⟨hml, hi, hi2, hg⟩ hk
  simp only at hml hi hi2 hg
  simp only [go_sem]
  first | refine branch_ndec (fun h6 => ?_) (fun h6 => ?_) | refine branch_dec (fun h6 => ?_) (fun h6 => ?_) | refine branch_nbool (fun h6 => ?_) (fun h6 => ?_) | refine branch_split (fun h6 => ?_) (fun h6 => ?_)
  rotate_left
  ·have hrev : m = l.reverse := List.ext_getElem (by simp [hml]) fun k h1 h2 => by
    have h3 := hg k (by omega)
    simp only [List.getD, List.getElem?_eq_getElem h1, Option.getD_some] at h3
    rw [h3, List.getElem_reverse]
    by_cases hc : k < i \/ l.length < k + 1 + i
    ·rw [if_pos hc]
     simp [List.getElem?_eq_getElem (show l.length - 1 - k < l.length by omega)]
    ·rw [if_neg hc]
     have : l.length - 1 - k = k := by omega
     simp [this, List.getElem?_eq_getElem (show k < l.length by omega)]
   simp only [go_sem, hrev]
   try trivial
  have hlt : i < m.length := by omega
  have h0 : (0 : Int) <= (i : Int) := by omega
  have hlt2 : (i : Int) < (m.length : Int) := by omega
  obtain ⟨j, hj⟩ : ∃ j : Nat, (l.length : Int) - 1 - (i : Int) = (j : Int) := ⟨l.length - 1 - i, by omega⟩
  rw [hj]
  rw [hj] at h6
  have h02 : (0 : Int) <= (j : Int) := by omega
  have hjl : j < m.length := by omega
  have hjl2 : (j : Int) < (m.length : Int) := by omega
  simp only [go_sem, h0, hlt, hlt2, h02, hjl, hjl2]
  have hjj : j = l.length - 1 - i := by omega
  have hij : i < j := by omega
  have gi := hg i (by omega)
  have gj := hg j (by omega)
  rw [if_neg (by omega)] at gi gj
  have hw3 : IntKind.i64.wrap ((i : Int) + 1) = ((i + 1 : Nat) : Int) := by rw [wrap64 (by omega) (by omega)]; omega
  have hw4 : IntKind.i64.wrap ((j : Int) - 1) = (l.length : Int) - 1 - ((i + 1 : Nat) : Int) := by rw [wrap64 (by omega) (by omega)]; omega
  refine ⟨by rw [List.length_set]; exact hjl, ?_⟩
  refine again_intro ((m.set i (m.getD j default)).set j (m.getD i default), i + 1) ⟨by simp only [List.length_set]; exact hml, by simp only; omega, by simp only; omega, fun k hk => ?_⟩ (by simp only; omega) ?_
  ·simp only
   rw [set_getD (by rw [List.length_set]; omega), set_getD (by omega)]
   by_cases e1 : j = k
   ·subst e1
    rw [if_pos rfl, if_pos (by omega), gi]
    congr 1
    omega
   ·rw [if_neg e1]
    by_cases e2 : i = k
    ·subst e2
     rw [if_pos rfl, if_pos (by omega), gj]
     congr 1
    ·rw [if_neg e2, hg k hk]
     by_cases e3 : k < i \/ l.length < k + 1 + i
     ·rw [if_pos e3, if_pos (by omega)]
     ·rw [if_neg e3, if_neg (by omega)]
  ·simp only [go_sem, hw3, hw4]
   try trivial
end Go.VS
set_option linter.unusedSimpArgs false
set_option linter.unusedVariables false
open Go.Proofs
set_option maxRecDepth 20000
namespace Go.VS
def keepB (p : Vot -> Bool) (x : Vot) : Bool := !p x
theorem votPut {xs : List Vot} {i : Nat} {a b c d : Int} : (xs.map Vot.enc).modify i (putF [] (.agg [.lit (.int .i64 a), .lit (.int .i64 b), .lit (.int .i64 c), .lit (.int .i64 d)])) = (xs.set i ⟨a, b, c, d⟩).map Vot.enc := modify_enc (f := Vot.enc) (v := (⟨a, b, c, d⟩ : Vot)) rfl
theorem filter_snoc {α : Type} {p : α -> Bool} {l : List α} {x : α} : (l ++ [x]).filter p = l.filter p ++ (if p x = true then [x] else []) := by
 rw [List.filter_append]
 congr 1
 cases h : p x <;> simp [List.filter_cons, h]
set_option maxHeartbeats 2000000 in
theorem ok144 (xs : List Vot) (f : Nat) (caps : List AVal) (p : Vot -> Bool) (hc : shdAs caps = true) (hg : caps.all (fun x => !isAggA x) = true) (hne : xs.filter (keepB p) ≠ []) (hf : ∀ x, VCalls gz f (Vot.enc x :: caps) none (fun y _ => y = .lit (.bool (p x)))) :
  VTake gz 144 [.undef, .fn f caps] 0 4 (xs.map Vot.enc) (fun y => y = .lst true 4 ((xs.filter (keepB p)).map Vot.enc)) := by
 refine VTake.go (nt := 42) (keep := [0, 1, 4, 5, 6, 7, 12, 19, 29]) (i := 0) (mvs := []) [] f144_at rfl (by kernel_rfl) rfl (by kernel_rfl) (by simp only [go_sem]) rfl rfl rfl ?_
 simp only [List.set]
 intro hok
 simp only [go_sem] at hok
 simp only [Tryz.f144, Func.code, Option.getD_some]
 simp only [go_sem]
 simp only [go_sem, shds_kill _ hc, shds_copy _ _ _ hc]
 refine call_lend ?_
 simp only [go_sem, shds_snap _ hc]
 refine callN.eq (ok112 xs f caps p hc hg (fun x _ => hf x)) (by simp only [go_sem]) ?_
 simp only [go_sem, shds_kill _ hc, shds_copy _ _ _ hc]
 have hr := idxOf_rng p xs
 by_cases h0 : idxOf p xs = -1
 ·have hn : ¬ xs.any p = true := fun h => by have := idxOf_nonneg.2 h; omega
  have e : xs.filter (keepB p) = xs := List.filter_eq_self.2 fun x hx => by
   cases hp : p x
   ·rw [keepB, hp]; rfl
   ·exact absurd (List.any_eq_true.2 ⟨x, hx, hp⟩) hn
  rw [e]
  simp only [go_sem, shds_kill _ hc, shds_copy _ _ _ hc, h0]
  try rw [List.take_length]
  try trivial
 have hge : 0 <= idxOf p xs := by omega
 obtain ⟨k, hk1, hk2, hk3⟩ := any_idx hge
 have hbefore : ∀ j, j < k -> p (xs.getD j default) = false := fun j hj => by
  have hany := idxOf_nonneg.1 hge
  have hk4 : xs.findIdx p = k := by
   unfold idxOf at hk2
   rw [if_pos hany] at hk2
   omega
  have := List.not_of_lt_findIdx (xs := xs) (p := p) (i := j) (by omega)
  rw [getElem_D (by omega)] at this
  simpa using this
 have hmx := hok
 rw [hk2]
 have w0 : IntKind.i64.wrap ((k : Int) + 1) = ((k + 1 : Nat) : Int) := by rw [wrap64 (by omega) (by omega)]; omega
 have n0 : ¬ ((k : Int) = -1) := by omega
 simp only [go_sem, shds_kill _ hc, shds_copy _ _ _ hc, n0, w0]
 refine vm_loopK (α := List Vot × Nat × Nat) (fun q => [(0, .lst true 4 (q.1.map Vot.enc)), (1, .fn f caps), (4, .lst true 4 []), (5, .lit (.int .i64 q.2.1)), (6, .lit (.int .i64 q.2.2))]) (fun q => q.1.length = xs.length /\ (q.2.1 < q.2.2 /\ q.2.2 <= xs.length) /\ q.1.take q.2.1 = (xs.take q.2.2).filter (keepB p) /\ ∀ m, q.2.2 <= m -> m < xs.length -> q.1.getD m default = xs.getD m default) (fun q => xs.length - q.2.2) (xs, k, k + 1) ?_ ⟨rfl, ⟨by simp, by simp only; omega⟩, ?_, fun m _ _ => rfl⟩ (by kernel_rfl) (fun _ => rfl) ?_
 ·simp only [go_sem, shds_kill _ hc, shds_copy _ _ _ hc]
  try trivial
 ·simp only
  rw [take_succ_getD hk1, filter_snoc, keepB, hk3]
  have : (xs.take k).filter (keepB p) = xs.take k := List.filter_eq_self.2 fun x hx => by
   obtain ⟨j, hj, rfl⟩ := List.mem_take_iff_getElem.1 hx
   have hjk : j < k := by omega
   rw [getElem_D (by omega), keepB, hbefore j hjk]
   rfl
  rw [this]
  simp
 ·rintro ⟨L, i, j⟩ ⟨hL, ⟨hij, hj⟩, ht, hr2⟩ hk4
  simp only at hL hij hj ht hr2
  simp only [go_sem, shds_kill _ hc, shds_copy _ _ _ hc, hL]
  intro hml
  first | refine branch_ndec (fun h6 => ?_) (fun h6 => ?_) | refine branch_dec (fun h6 => ?_) (fun h6 => ?_) | refine branch_nbool (fun h6 => ?_) (fun h6 => ?_) | refine branch_split (fun h6 => ?_) (fun h6 => ?_)
  rotate_left
  ·have hje : j = xs.length := by omega
   subst hje
   rw [List.take_length] at ht
   simp only [go_sem, shds_kill _ hc, shds_copy _ _ _ hc, hL]
   have hil : (L.take i).length = i := by rw [List.length_take]; omega
   have hip : 0 < i := by
    have h9 : 0 < (xs.filter (keepB p)).length := List.length_pos_iff.2 hne
    rw [<- ht, hil] at h9
    exact h9
   have hA : (List.map Vot.enc (List.take i L)).length = i := by rw [List.length_map, hil]
   have hT : ∀ R : List AVal, List.take (i - 0) (List.map Vot.enc (List.take i L) ++ R) = List.map Vot.enc (xs.filter (keepB p)) := fun R => by
    rw [Nat.sub_zero, List.take_left' hA, ht]
   refine ⟨by omega, by omega, by omega, fun _ => ⟨by omega, by omega, ?_, fun _ => ⟨?_, ?_, ?_⟩, fun h => by omega⟩, fun h => by omega⟩
   ·rw [hil, List.length_replicate, List.length_drop, hL]
    omega
   ·rw [hil]
    omega
   ·rw [List.append_assoc, hT]
    simp only [go_sem]
   ·rw [List.append_assoc, hT]
  ·have hlt : j < xs.length := by omega
   have j0 : (0 : Int) <= (j : Int) := by omega
   have i0 : (0 : Int) <= (i : Int) := by omega
   have i1 : (i : Int) < (xs.length : Int) := by omega
   have i2 : i < xs.length := by omega
   have i3 : i < L.length := by omega
   have hjv := hr2 j (Nat.le_refl _) hlt
   have w1 : IntKind.i64.wrap ((i : Int) + 1) = ((i + 1 : Nat) : Int) := by rw [wrap64 (by omega) (by omega)]; omega
   have w2 : IntKind.i64.wrap ((j : Int) + 1) = ((j + 1 : Nat) : Int) := by rw [wrap64 (by omega) (by omega)]; omega
   simp only [go_sem, shds_kill _ hc, shds_copy _ _ _ hc, hL, j0, hlt, h6, hjv, hg]
   refine call_lend ?_
   simp only [go_sem, shds_snap _ hc]
   refine callN.eq (hf _) (by simp only [go_sem]) ?_
   simp only [go_sem, shds_kill _ hc, shds_copy _ _ _ hc]
   cases hp : p (xs.getD j default)
   ·simp only [go_sem, shds_kill _ hc, shds_copy _ _ _ hc, i0, i1, i2, hL, w1, w2, votPut]
    refine again_intro (L.set i (xs.getD j default), i + 1, j + 1) ⟨by simp only [List.length_set]; exact hL, ⟨by simp only; omega, by simp only; omega⟩, ?_, fun m hm1 hm2 => ?_⟩ (by simp only; omega) ?_
    ·simp only
     rw [take_succ_getD hlt, filter_snoc, keepB, hp, <- ht, take_succ_getD (by rw [List.length_set]; exact i3), set_getD i3, if_pos rfl, List.take_set_of_le (Nat.le_refl _)]
     rfl
    ·simp only at hm1 ⊢
     rw [set_getD (by omega), if_neg (by omega)]
     exact hr2 m (by omega) hm2
    ·simp only [go_sem, shds_kill _ hc, shds_copy _ _ _ hc]
     try trivial
   ·simp only [go_sem, shds_kill _ hc, shds_copy _ _ _ hc, w2]
    refine again_intro (L, i, j + 1) ⟨hL, ⟨by simp only; omega, by simp only; omega⟩, ?_, fun m hm1 hm2 => hr2 m (by simp only at hm1; omega) hm2⟩ (by simp only; omega) ?_
    ·simp only
     rw [take_succ_getD hlt, filter_snoc, keepB, hp, ht]
     simp
    ·simp only [go_sem, shds_kill _ hc, shds_copy _ _ _ hc]
     try trivial
end Go.VS
set_option linter.unusedSimpArgs false
set_option linter.unusedVariables false
open Go.Proofs
set_option maxRecDepth 20000
namespace Go.VS
theorem Rpl.chF_len (r : Rpl) : ∀ (n : Nat) (i : Int), (r.chF n i).length <= n
 | 0, i => by simp [Rpl.chF]
 | n + 1, i => by
  unfold Rpl.chF
  split
  ·simp
  ·have := Rpl.chF_len r n (r.up i.toNat)
   simp only [List.length_append, List.length_cons, List.length_nil]
   omega
theorem Rpl.wf.agr {r : Rpl} (hw : r.wf) (i : Nat) : (r.agr i).wf := by
 unfold Rpl.agr
 split
 ·exact hw
 ·split
  ·exact hw
  ·split
   ·exact ⟨hw.sv, hw.bl, hw.bk, hw.ap, hw.kn, Nat.le_trans (Rpl.chF_len r 61 _) (by omega), hw.vl, hw.nl, hw.hs⟩
   ·exact hw
theorem Rpl.agr_keeps (r : Rpl) (i : Nat) : (r.agr i).blocks = r.blocks /\ (r.agr i).n = r.n /\ (r.agr i).id = r.id /\ (r.agr i).votes = r.votes /\ (r.agr i).news = r.news /\ (r.agr i).voted = r.voted /\ (r.agr i).proposed = r.proposed /\ (r.agr i).view = r.view /\ (r.agr i).locked = r.locked /\ (r.agr i).high = r.high := by
 unfold Rpl.agr
 split
 ·simp
 ·split
  ·simp
  ·split <;> simp
theorem Prf.ok_sz {p : Prf} {n : Int} (h : p.ok n = true) : p.sz <= 14 := by
 have := Prf.ok_nums h
 unfold Prf.sz
 omega
theorem Rpl.wf.tkP {r : Rpl} (hw : r.wf) (x : Prf) : (r.tkP x).wf := by
 unfold Rpl.tkP
 split
 ·rename_i h
  have hz := Prf.ok_sz h.1
  have hh : (if r.high.view < x.view then x else r.high).sz <= 1048576 := by
   split
   ·omega
   ·exact hw.hs
  by_cases hx : r.at x < 0
  ·rw [if_pos hx]
   exact ⟨hw.sv, hw.bl, hw.bk, hw.ap, hw.kn, hw.dl, hw.vl, hw.nl, hh⟩
  ·rw [if_neg hx]
   refine Rpl.wf.agr ?_ _
   exact ⟨hw.sv, hw.bl, hw.bk, hw.ap, hw.kn, hw.dl, hw.vl, hw.nl, hh⟩
 ·exact hw
theorem Rpl.tkP_keeps (r : Rpl) (x : Prf) : (r.tkP x).blocks = r.blocks /\ (r.tkP x).n = r.n /\ (r.tkP x).id = r.id /\ (r.tkP x).votes = r.votes /\ (r.tkP x).news = r.news /\ (r.tkP x).voted = r.voted /\ (r.tkP x).proposed = r.proposed := by
 unfold Rpl.tkP
 split
 ·by_cases hx : r.at x < 0
  ·rw [if_pos hx]
   simp
  ·rw [if_neg hx]
   have := Rpl.agr_keeps ({ r with high := if r.high.view < x.view then x else r.high, view := maxI r.view (minI (x.view + 1) 100000), locked := maxI r.locked (r.blocks.getD (r.at x).toNat default).proof.view } : Rpl) (r.at x).toNat
   exact ⟨this.1, this.2.1, this.2.2.1, this.2.2.2.1, this.2.2.2.2.1, this.2.2.2.2.2.1, this.2.2.2.2.2.2.1⟩
 ·simp
theorem Rpl.wf.tkV {r : Rpl} (hw : r.wf) (v : Vot) : (r.tkV v).wf := by
 unfold Rpl.tkV
 split
 ·rename_i h
  have hv : (r.votes ++ [v]).length <= 60 := by
   have := h.2.2.2.1
   simp only [List.length_append, List.length_cons, List.length_nil]
   omega
  have h1 : ({ r with votes := r.votes ++ [v] } : Rpl).wf := ⟨hw.sv, hw.bl, hw.bk, hw.ap, hw.kn, hw.dl, hv, hw.nl, hw.hs⟩
  split
  ·exact h1.tkP _
  ·exact h1
 ·exact hw
theorem Rpl.wf.tkN {r : Rpl} (hw : r.wf) (x : Nws) : (r.tkN x).wf := by
 unfold Rpl.tkN
 split
 ·rename_i h
  have hv : (r.news ++ [x]).length <= 30 := by
   have := h.2.2.1
   simp only [List.length_append, List.length_cons, List.length_nil]
   omega
  exact ⟨hw.sv, hw.bl, hw.bk, hw.ap, hw.kn, hw.dl, hw.vl, hv, hw.hs⟩
 ·exact hw
theorem getD_snoc {α : Type} [Inhabited α] {xs : List α} {x : α} {i : Nat} (h : i < (xs ++ [x]).length) : (i < xs.length /\ (xs ++ [x]).getD i default = xs.getD i default) \/ (i = xs.length /\ (xs ++ [x]).getD i default = x) := by
 rw [List.length_append, List.length_cons, List.length_nil] at h
 rcases Nat.lt_or_ge i xs.length with h1 | h1
 ·refine .inl ⟨h1, ?_⟩
  simp [List.getD, List.getElem?_append_left h1]
 ·have h2 : i = xs.length := by omega
  refine .inr ⟨h2, ?_⟩
  subst h2
  simp [List.getD]
def Rpl.new (r : Rpl) (b : Blk) : Prop := b.ok r.n = true /\ knwB r.blocks b.proof = true /\ r.blocks.length < 60 /\ r.blocks.any (nmB2 b.nm) = false
theorem Rpl.wf.addB {r : Rpl} (hw : r.wf) {b : Blk} (h : r.new b) : ({ r with blocks := r.blocks ++ [b] } : Rpl).wf := by
 obtain ⟨h1, h2, h3, h4⟩ := h
 have hn : ∀ k, k < r.blocks.length -> (r.blocks.getD k default).nm ≠ b.nm := fun k hk he => by
  have := List.any_eq_false.1 h4 _ (getD_mem hk)
  rw [nmB2, decide_eq_true he] at this
  exact this rfl
 refine ⟨hw.sv, ?_, fun i hi => ?_, fun i k hi hk => ?_, fun i hi => ?_, hw.dl, hw.vl, hw.nl, hw.hs⟩
 ·show (r.blocks ++ [b]).length <= 60
  rw [List.length_append, List.length_cons, List.length_nil]
  omega
 ·show ((r.blocks ++ [b]).getD i default).ok r.n = true
  rcases getD_snoc hi with ⟨g1, g2⟩ | ⟨g1, g2⟩
  ·rw [g2]; exact hw.bk i g1
  ·rw [g2]; exact h1
 ·show ((r.blocks ++ [b]).getD k default).nm ≠ ((r.blocks ++ [b]).getD i default).nm
  have hk2 : k < (r.blocks ++ [b]).length := Nat.lt_trans hk hi
  rcases getD_snoc hi with ⟨g1, g2⟩ | ⟨g1, g2⟩
  ·rcases getD_snoc hk2 with ⟨q1, q2⟩ | ⟨q1, q2⟩
   ·rw [g2, q2]; exact hw.ap i k g1 hk
   ·omega
  ·rcases getD_snoc hk2 with ⟨q1, q2⟩ | ⟨q1, q2⟩
   ·rw [g2, q2]; exact hn k q1
   ·omega
 ·show knwB ((r.blocks ++ [b]).take i) ((r.blocks ++ [b]).getD i default).proof = true
  rcases getD_snoc hi with ⟨g1, g2⟩ | ⟨g1, g2⟩
  ·rw [g2, List.take_append_of_le_length (Nat.le_of_lt g1)]; exact hw.kn i g1
  ·rw [g2, g1, List.take_left]; exact h2
theorem Rpl.wf.tkB0 {r : Rpl} (hw : r.wf) {b : Blk} (h : r.new b) : (r.tkB0 b).wf := by
 have h1 := (hw.addB h).tkP b.proof
 unfold Rpl.tkB0
 exact ⟨h1.sv, h1.bl, h1.bk, h1.ap, h1.kn, h1.dl, h1.vl, h1.nl, h1.hs⟩
theorem Rpl.wf.tkB {r : Rpl} (hw : r.wf) (b : Blk) : (r.tkB b).1.wf := by
 unfold Rpl.tkB
 split
 ·rename_i h
  have h1 := hw.tkB0 h
  split
  ·exact h1
  ·have h2 : ({ r.tkB0 b with voted := b.view } : Rpl).wf := ⟨h1.sv, h1.bl, h1.bk, h1.ap, h1.kn, h1.dl, h1.vl, h1.nl, h1.hs⟩
   split
   ·exact h2.tkV _
   ·exact h2
 ·exact hw
theorem Rpl.wf.tk {r : Rpl} (hw : r.wf) (m : Msg) : (r.tk m).1.wf := by
 unfold Rpl.tk
 split
 ·exact hw.tkB _
 ·split
  ·exact hw.tkV _
  ·split
   ·exact (hw.tkP _).tkN _
   ·exact hw
theorem Rpl.wf.hr {r : Rpl} (hw : r.wf) (m : Msg) : (r.hr m).1.wf := by
 unfold Rpl.hr
 split
 ·exact hw.tk m
 ·exact hw
end Go.VS
set_option linter.unusedSimpArgs false
set_option linter.unusedVariables false
open Go.Proofs
set_option maxRecDepth 20000
namespace Go.VS
theorem Rpl.chF_neg (r : Rpl) {i : Int} (h : i < 0) : ∀ n, r.chF n i = []
 | 0 => rfl
 | n + 1 => by unfold Rpl.chF; rw [if_pos h]
theorem Rpl.wf.chF_any {r : Rpl} (hw : r.wf) : ∀ (n m : Nat) (i : Int), i < (n : Int) -> i < (m : Int) -> i < (r.blocks.length : Int) -> r.chF n i = r.chF m i
 | 0, m, i, h1, h2, h3 => by rw [r.chF_neg (by omega), r.chF_neg (by omega)]
 | n + 1, 0, i, h1, h2, h3 => by rw [r.chF_neg (by omega), r.chF_neg (by omega)]
 | n + 1, m + 1, i, h1, h2, h3 => by
  by_cases h : i < 0
  ·rw [r.chF_neg h, r.chF_neg h]
  ·have hu := hw.up_rng (i := i.toNat) (by omega)
   unfold Rpl.chF
   rw [if_neg h, if_neg h, Rpl.wf.chF_any hw n m (r.up i.toNat) (by omega) (by omega) (by omega)]
theorem Rpl.wf.ch_step {r : Rpl} (hw : r.wf) {i : Nat} (hi : i < r.blocks.length) : r.chF 61 (i : Int) = r.chF 61 (r.up i) ++ [(r.blocks.getD i default).nm] := by
 have hl := hw.bl
 have hu := hw.up_rng hi
 have h0 : ¬ ((i : Int) < 0) := by omega
 have e : r.chF 61 (i : Int) = r.chF 60 (r.up i) ++ [(r.blocks.getD i default).nm] := by
  show (if (i : Int) < 0 then [] else r.chF 60 (r.up (i : Int).toNat) ++ [(r.blocks.getD (i : Int).toNat default).nm]) = _
  rw [if_neg h0, Int.toNat_natCast]
 rw [e, hw.chF_any 60 61 (r.up i) (by omega) (by omega) (by omega)]
theorem Rpl.wf.names {r : Rpl} (hw : r.wf) : r.blocks.map Blk.nmI = r.blocks.map Blk.nm := Rpl.names_eq hw.bk
theorem Rpl.wf.name {r : Rpl} (hw : r.wf) {i : Nat} (hi : i < r.blocks.length) : (r.blocks.map Blk.nmI).getD i default = (r.blocks.getD i default).nm := by
 rw [hw.names]
 simp [List.getD, List.getElem?_map, List.getElem?_eq_getElem hi]
def Rpl.wk (r : Rpl) (out : List Msg) : Pty := ⟨r, r.blocks.map Blk.nmI, out⟩
theorem Rpl.wk_has (r : Rpl) (out : List Msg) (n v : Int) : (r.wk out).has n v = r.pty.has n v := rfl
theorem Rpl.wk_len (r : Rpl) (out : List Msg) : (r.wk out).names.length = (r.wk out).r.blocks.length := by simp [Rpl.wk]
theorem Rpl.wf.wk_up {r : Rpl} (hw : r.wf) (out : List Msg) {i : Nat} (hi : i < r.blocks.length) : idxOf (isI (r.blocks.getD i default).parent) (r.blocks.map Blk.nmI) = r.up i := hw.fnd_up hi
theorem Rpl.wf.bk_view {r : Rpl} (hw : r.wf) {i : Nat} (hi : i < r.blocks.length) : 1 <= (r.blocks.getD i default).view /\ (r.blocks.getD i default).view <= 100000 /\ (r.blocks.getD i default).proof.view < (r.blocks.getD i default).view /\ 0 <= (r.blocks.getD i default).proof.view := by
 have h := Blk.ok_of (hw.bk i hi)
 refine ⟨h.2.1.1, h.2.1.2, h.2.2.1, ?_⟩
 obtain ⟨hs, h1 | ⟨h1, h2⟩⟩ := Prf.ok_cases h.1
 ·simp only [Prf.one, decide_eq_true_eq] at h1
  omega
 ·have := Prf.rnd_view (h2 0 (Prf.len_pos hs h1))
  omega
theorem Prf.ok_view {p : Prf} {n : Int} (h : p.ok n = true) : 0 <= p.view /\ p.view <= 100000 /\ (p.one = false -> 1 <= p.view) := by
 obtain ⟨hs, h1 | ⟨h1, h2⟩⟩ := Prf.ok_cases h
 ·have h3 := h1
  simp only [Prf.one, decide_eq_true_eq] at h1
  exact ⟨by omega, by omega, fun h => by rw [h3] at h; cases h⟩
 ·have := Prf.rnd_view (h2 0 (Prf.len_pos hs h1))
  exact ⟨by omega, by omega, fun _ => by omega⟩
end Go.VS
set_option linter.unusedSimpArgs false
set_option linter.unusedVariables false
open Go.Proofs
set_option maxRecDepth 20000
namespace Go.VS
theorem Rpl.wf.has_eq {r : Rpl} (hw : r.wf) (n v : Int) : r.pty.has n v = idxOf (fndP n v) r.blocks := by
 have h := hw.has ⟨v, n, [0], []⟩ (by simp [Prf.one])
 unfold Rpl.at at h
 rwa [if_neg (by simp [Prf.one])] at h
theorem Rpl.at_one {r : Rpl} {x : Prf} (h : x.one = true) : r.at x = -1 := if_pos h
theorem Rpl.at_not {r : Rpl} {x : Prf} (h : x.one = false) : r.at x = idxOf (fndP x.name x.view) r.blocks := if_neg (by rw [h]; decide)
theorem knwB_one {l : List Blk} {x : Prf} (h : x.one = true) : knwB l x = true := by unfold knwB; rw [h]; rfl
theorem knwB_not {l : List Blk} {x : Prf} (h : x.one = false) : knwB l x = true ↔ 0 <= idxOf (fndP x.name x.view) l := by
 unfold knwB
 rw [h, Bool.false_or, idxOf_nonneg]
theorem Rpl.wf.fnd_any {r : Rpl} (hw : r.wf) (n : Int) : 0 <= idxOf (isI n) (r.blocks.map Blk.nmI) ↔ r.blocks.any (nmB2 n) = true := by
 rw [hw.names, idxOf_nonneg, List.any_map]
 have : (isI n ∘ Blk.nm) = nmB2 n := by
  funext b
  simp only [Function.comp, isI, nmB2, eq_comm]
 rw [this]
theorem Rpl.wf.knw_new {r : Rpl} (hw : r.wf) {b : Blk} (hb : b.ok r.n = true) (out : List Msg) : (r.wk out).knw b r.blocks.length = knwB r.blocks b.proof := by
 have hp := (Blk.ok_of hb).2.2.2.1
 have hh : (r.wk out).has b.parent b.proof.view = idxOf (fndP b.proof.name b.proof.view) r.blocks := by rw [Rpl.wk_has, hw.has_eq, hp]
 have hr := idxOf_rng (fndP b.proof.name b.proof.view) r.blocks
 unfold Pty.knw
 rw [hh]
 cases ho : b.proof.one
 ·have hk := knwB_not (l := r.blocks) ho
  rw [Bool.and_false, Bool.false_or]
  by_cases h : 0 <= idxOf (fndP b.proof.name b.proof.view) r.blocks
  ·rw [hk.2 h, decide_eq_true h, decide_eq_true (by omega)]
   rfl
  ·rw [decide_eq_false h, Bool.false_and]
   cases hc : knwB r.blocks b.proof
   ·rfl
   ·exact absurd (hk.1 hc) h
 ·have h0 : b.parent = 0 := by
   simp only [Prf.one, decide_eq_true_eq] at ho
   rw [hp]
   exact ho.2.1
  rw [knwB_one ho, decide_eq_true h0]
  rfl
end Go.VS
set_option linter.unusedSimpArgs false
set_option linter.unusedVariables false
open Go.Proofs
set_option maxRecDepth 20000
namespace Go.VS
theorem f147_at : gz.P.funcs[147]? = some Tryz.f147 := by
 have h : Tryz.prog.funcs[147]? = some Tryz.f147 := by kernel_rfl
 exact h
theorem ok158 (r : Rpl) (out : List Msg) (hw : r.wf) (d : Int) (hd1 : -1 <= d) (hd2 : d < (r.blocks.length : Int)) : VCalls gz 158 [.ptr false ((r.wk out).enc false), .lit (.int .i64 d)] none (fun y _ => y = .lst true 1 ((r.chF 61 d).map intA)) := by
 have hcl := Rpl.chF_len r 61 d
 have hbl := hw.bl
 have hnl : (r.wk out).names.length = r.blocks.length := Rpl.wk_len r out
 refine VCalls.go (nt := 33) (keep := [0, 1, 4, 5, 8]) (muts := []) (mvs := []) [] f158_at rfl (by kernel_rfl) rfl (by kernel_rfl) rfl (fun i h => by cases h) rfl ?_
 intro hok
 simp only [go_sem] at hok
 simp only [Tryz.f158, Func.code, Option.getD_some]
 simp only [go_sem]
 refine vm_loopK (α := Int × List Int) (fun q => [(0, .ptr false ((r.wk out).enc false)), (1, .lit (.int .i64 q.1)), (5, .lst true 1 (q.2.map intA))]) (fun q => (-1 <= q.1 /\ q.1 < (r.blocks.length : Int)) /\ r.chF 61 d = r.chF 61 q.1 ++ q.2.reverse) (fun q => (q.1 + 1).toNat) (d, []) ?_ ⟨⟨hd1, hd2⟩, by simp⟩ (by kernel_rfl) (fun _ => rfl) ?_
 ·simp only [go_sem]
  try trivial
 ·rintro ⟨i, l⟩ ⟨⟨hi1, hi2⟩, he⟩ hk
  simp only at hi1 hi2 he
  have hll : l.length <= 61 := by
   have := congrArg List.length he
   simp only [List.length_append, List.length_reverse] at this
   omega
  simp only [go_sem]
  first | refine branch_ndec (fun h6 => ?_) (fun h6 => ?_) | refine branch_dec (fun h6 => ?_) (fun h6 => ?_) | refine branch_nbool (fun h6 => ?_) (fun h6 => ?_) | refine branch_split (fun h6 => ?_) (fun h6 => ?_)
  rotate_left
  ·rw [r.chF_neg (i := i) (by omega), List.nil_append] at he
   have hb : l.length <= 1099511627776 := by omega
   simp only [go_sem]
   refine call_give 0 5 [] rfl rfl rfl (by simp only [go_sem]; rfl) (by simp only [go_sem, List.getElem?_cons_zero, List.getElem?_cons_succ]) (by simp only [go_sem]) (by simp only [go_sem]) (by simp only [go_sem]) ?_
   simp only [go_sem, List.set]
   refine callW.eq (ok162 l hb) ?_
   simp only [go_sem]
   refine ⟨List.length_reverse, ?_⟩
   rw [he]
   try trivial
  obtain ⟨k, rfl⟩ := Int.eq_ofNat_of_zero_le h6
  have hkl : k < r.blocks.length := by omega
  have h0 : (0 : Int) <= (k : Int) := by omega
  have hkl2 : k < (r.wk out).names.length := by omega
  have hkl3 : (k : Int) < ((r.wk out).names.length : Int) := by omega
  have hn := hw.name hkl
  have hn2 : (r.wk out).names.getD k default = (r.blocks.getD k default).nm := hn
  have hr3 : (r.wk out).r = r := rfl
  have hu := hw.up_rng hkl
  have hs := hw.ch_step hkl
  simp only [go_sem, h0, hkl2, hkl3, hn2]
  refine ⟨by omega, ?_⟩
  simp only [go_sem, hr3, h0, hkl, hi2]
  refine call_lend ?_
  simp only [go_sem]
  refine callN.eq (ok110 (r.wk out) (r.blocks.getD k default).parent) (by simp only [go_sem]) ?_
  simp only [go_sem]
  have e : idxOf (isI (r.blocks.getD k default).parent) (r.wk out).names = r.up k := hw.wk_up out hkl
  rw [e]
  refine again_intro (r.up k, l ++ [(r.blocks.getD k default).nm]) ⟨⟨by simp only; omega, by simp only; omega⟩, ?_⟩ (by simp only; omega) ?_
  ·simp only
   rw [he, hs, List.reverse_append]
   simp
  simp only [go_sem]
  try trivial
theorem ok107 (r : Rpl) (hw : r.wf) (d : Int) (hd1 : -1 <= d) (hd2 : d < (r.blocks.length : Int)) : VCalls gz 107 [.lst false 8 (r.blocks.map (Blk.enc false)), .lit (.int .i64 d)] none (fun y _ => y = .lst true 1 ((r.chF 61 d).map intA)) := by
 have hcl := Rpl.chF_len r 61 d
 have hbl := hw.bl
 refine VCalls.go (nt := 32) (keep := [0, 1, 4, 5, 6, 9, 21]) (muts := []) (mvs := []) [] f107_at rfl (by kernel_rfl) rfl (by kernel_rfl) rfl (fun i h => by cases h) rfl ?_
 intro hok
 simp only [go_sem] at hok
 simp only [Tryz.f107, Func.code, Option.getD_some]
 simp only [go_sem]
 refine vm_loopK (α := Int × List Int) (fun q => [(0, .lst false 8 (r.blocks.map (Blk.enc false))), (1, .lit (.int .i64 q.1)), (5, .lst true 1 (q.2.map intA))]) (fun q => (-1 <= q.1 /\ q.1 < (r.blocks.length : Int)) /\ r.chF 61 d = r.chF 61 q.1 ++ q.2) (fun q => (q.1 + 1).toNat) (d, []) ?_ ⟨⟨hd1, hd2⟩, by simp⟩ (by kernel_rfl) (fun _ => rfl) ?_
 ·simp only [go_sem]
  try trivial
 ·rintro ⟨i, l⟩ ⟨⟨hi1, hi2⟩, he⟩ hk
  simp only at hi1 hi2 he
  have hll : l.length <= 61 := by
   have := congrArg List.length he
   simp only [List.length_append] at this
   omega
  simp only [go_sem]
  first | refine branch_ndec (fun h6 => ?_) (fun h6 => ?_) | refine branch_dec (fun h6 => ?_) (fun h6 => ?_) | refine branch_nbool (fun h6 => ?_) (fun h6 => ?_) | refine branch_split (fun h6 => ?_) (fun h6 => ?_)
  rotate_left
  ·rw [r.chF_neg (i := i) (by omega), List.nil_append] at he
   rw [he]
   simp only [go_sem]
   try trivial
  obtain ⟨k, rfl⟩ := Int.eq_ofNat_of_zero_le h6
  have hkl : k < r.blocks.length := by omega
  have h0 : (0 : Int) <= (k : Int) := by omega
  have hu := hw.up_rng hkl
  have hs := hw.ch_step hkl
  have hup : r.up k = r.at (r.blocks.getD k default).proof := rfl
  have htl : List.take (l.length + 1 - 1) l = l := by simp
  simp only [go_sem, h0, hkl, hi2]
  refine call_lend ?_
  simp only [go_sem]
  refine callN.eq (ok65 (r.blocks.getD k default)) (by simp only [go_sem]) ?_
  simp only [go_sem]
  refine ⟨by omega, ?_⟩
  refine call_lend ?_
  simp only [go_sem]
  refine callN.eq (ok95 (r.blocks.getD k default).proof) (by simp only [go_sem]) ?_
  simp only [go_sem]
  cases ho : (r.blocks.getD k default).proof.one
  ·rw [Rpl.at_not ho] at hup
   simp only [go_sem]
   refine call_lend ?_
   simp only [go_sem]
   refine callN.eq (ok99 r.blocks (r.blocks.getD k default).proof.name (r.blocks.getD k default).proof.view) (by simp only [go_sem]) ?_
   simp only [go_sem]
   rw [<- hup]
   refine again_intro (r.up k, (r.blocks.getD k default).nm :: l) ⟨⟨by simp only; omega, by simp only; omega⟩, ?_⟩ (by simp only; omega) ?_
   ·simp only
    rw [he, hs]
    simp
   simp only [go_sem, htl]
   try trivial
  ·rw [Rpl.at_one ho] at hup
   rw [hs, hup, r.chF_neg (i := -1) (by omega), List.nil_append] at he
   rw [he]
   simp only [go_sem, htl]
   try trivial
section
variable {r : Rpl} {i c d : Nat}
theorem Rpl.agr1 (h : r.up i < 0) : r.agr i = r := if_pos (.inl h)
theorem Rpl.agr2 (hc : r.up i = (c : Int)) (h : ¬ (r.blocks.getD c default).view = (r.blocks.getD i default).view - 1) : r.agr i = r := if_pos (.inr (by
 rw [hc]
 show (r.blocks.getD c default).view + 1 ≠ (r.blocks.getD i default).view
 omega))
theorem Rpl.agr_go (hc : r.up i = (c : Int)) (h : (r.blocks.getD c default).view = (r.blocks.getD i default).view - 1) : r.agr i =
 if r.up c < 0 \/ r.vw (r.up c) + 1 ≠ r.vw c then r else
 if r.done.length < (r.chF 61 (r.up c)).length /\ (r.chF 61 (r.up c)).take r.done.length = r.done then { r with done := r.chF 61 (r.up c) } else r := by
 unfold Rpl.agr
 rw [if_neg, hc, Int.toNat_natCast]
 rw [hc]
 rintro (h1 | h1)
 ·omega
 ·exact h1 (by show (r.blocks.getD c default).view + 1 = (r.blocks.getD i default).view; omega)
theorem Rpl.agr3 (hc : r.up i = (c : Int)) (h : (r.blocks.getD c default).view = (r.blocks.getD i default).view - 1) (h1 : r.up c < 0) : r.agr i = r := by
 rw [Rpl.agr_go hc h, if_pos (.inl h1)]
theorem Rpl.agr4 (hc : r.up i = (c : Int)) (h : (r.blocks.getD c default).view = (r.blocks.getD i default).view - 1) (hd : r.up c = (d : Int)) (h1 : ¬ (r.blocks.getD d default).view = (r.blocks.getD i default).view - 2) : r.agr i = r := by
 have h2 : r.vw (r.up c) + 1 ≠ r.vw c := by
  rw [hd]
  show (r.blocks.getD d default).view + 1 ≠ (r.blocks.getD c default).view
  omega
 rw [Rpl.agr_go hc h, if_pos (.inr h2)]
theorem Rpl.agr5 (hc : r.up i = (c : Int)) (h : (r.blocks.getD c default).view = (r.blocks.getD i default).view - 1) (hd : r.up c = (d : Int)) (h1 : (r.blocks.getD d default).view = (r.blocks.getD i default).view - 2) :
  r.agr i = if r.done.length < (r.chF 61 (d : Int)).length /\ (r.chF 61 (d : Int)).take r.done.length = r.done then { r with done := r.chF 61 (d : Int) } else r := by
 rw [Rpl.agr_go hc h, if_neg, hd]
 rw [hd]
 rintro (h2 | h2)
 ·omega
 ·exact h2 (by show (r.blocks.getD d default).view + 1 = (r.blocks.getD c default).view; omega)
end
end Go.VS
set_option linter.unusedSimpArgs false
set_option linter.unusedVariables false
open Go.Proofs
set_option maxRecDepth 20000
namespace Go.VS
theorem f68_at : gz.P.funcs[68]? = some Tryz.f68 := by
 have h : Tryz.prog.funcs[68]? = some Tryz.f68 := by kernel_rfl
 exact h
theorem f104_at : gz.P.funcs[104]? = some Tryz.f104 := by
 have h : Tryz.prog.funcs[104]? = some Tryz.f104 := by kernel_rfl
 exact h
theorem f69_at : gz.P.funcs[69]? = some Tryz.f69 := by
 have h : Tryz.prog.funcs[69]? = some Tryz.f69 := by kernel_rfl
 exact h
theorem f25_at : gz.P.funcs[25]? = some Tryz.f25 := by
 have h : Tryz.prog.funcs[25]? = some Tryz.f25 := by kernel_rfl
 exact h
theorem ok68 (p : Prf) (hp : p.sz <= 1048576) : VCalls gz 68 [p.enc false] none (fun y _ => y = p.enc true) := by
 have hp2 : p.bys.length + p.tags.length <= 1048576 := hp
 refine VCalls.go (nt := 14) (keep := [0, 1, 2]) (muts := []) (mvs := [3]) [] f68_at rfl (by kernel_rfl) rfl (by kernel_rfl) rfl (fun i h => by cases h) rfl ?_
 intro hok
 simp only [go_sem] at hok
 simp only [Tryz.f68, Func.code, Option.getD_some]
 simp only [go_sem]
 omega
theorem ok104 (b : Blk) (hb : b.sz <= 1048576) : VCalls gz 104 [b.enc false] none (fun y _ => y = b.enc true) := by
 have hb2 : b.proof.sz + szL ByteArray.size b.moves <= 1048576 := hb
 simp only [szL] at hb2
 refine VCalls.go (nt := 13) (keep := [0, 1, 2]) (muts := []) (mvs := [3]) [] f104_at rfl (by kernel_rfl) rfl (by kernel_rfl) rfl (fun i h => by cases h) rfl ?_
 intro hok
 simp only [go_sem] at hok
 simp only [Tryz.f104, Func.code, Option.getD_some]
 simp only [go_sem]
 refine call_lend ?_
 simp only [go_sem]
 refine callN.eq (ok68 b.proof (by omega)) (by simp only [go_sem]) ?_
 simp only [go_sem]
 omega
theorem ok69 (xs : List Blk) (hl : xs.length <= 1048576) (hz : ∀ i, i < xs.length -> Blk.sz (xs.getD i default) <= 1048576) : VCalls gz 69 [.lst false 8 (xs.map (Blk.enc false))] none (fun y _ => y = .lst true 8 (xs.map (Blk.enc true))) := by
 refine VCalls.go (nt := 21) (keep := [0, 2, 3, 4, 9]) (muts := []) (mvs := []) [] f69_at rfl (by kernel_rfl) rfl (by kernel_rfl) rfl (fun i h => by cases h) rfl ?_
 intro hok
 simp only [go_sem] at hok
 simp only [Tryz.f69, Func.code, Option.getD_some]
 simp only [go_sem]
 refine vm_loopK (α := Nat) (fun i => [(0, .lst false 8 (xs.map (Blk.enc false))), (3, .lst true 8 ((xs.take i).map (Blk.enc true))), (4, .lit (.int .i64 i))]) (fun i => i <= xs.length) (fun i => xs.length - i) 0 ?_ (by omega) (by kernel_rfl) (fun _ => rfl) ?_
 ·simp only [go_sem]
  try rfl
 ·intro i hi hk
  simp only [go_sem]
  intro _
  first | refine branch_ndec (fun h6 => ?_) (fun h6 => ?_) | refine branch_dec (fun h6 => ?_) (fun h6 => ?_) | refine branch_nbool (fun h6 => ?_) (fun h6 => ?_) | refine branch_split (fun h6 => ?_) (fun h6 => ?_)
  ·have hlt : i < xs.length := by omega
   have h0 : (0 : Int) <= (i : Int) := by omega
   have hw3 : IntKind.i64.wrap ((i : Int) + 1) = ((i + 1 : Nat) : Int) := by rw [wrap64 (by omega) (by omega)]; omega
   simp only [go_sem, h0, hlt, h6]
   refine call_lend ?_
   simp only [go_sem]
   refine callN.eq (ok104 (xs.getD i default) (hz i hlt)) (by simp only [go_sem]) ?_
   simp only [go_sem]
   have hlk : (xs.take i).length = i := by rw [List.length_take]; omega
   refine ⟨by omega, ?_⟩
   rw [hw3]
   refine again_intro (i + 1) (by omega) (by omega) ?_
   simp only [go_sem]
   rw [take_succ_getD hlt, List.map_append]
   try rfl
  ·have hie : i = xs.length := by omega
   subst hie
   simp only [go_sem, List.take_length]
theorem ok25 (r : Rpl) (hr : r.hold) : VCalls gz 25 [r.enc false] none (fun y _ => y = r.enc true) := by
 obtain ⟨g1, g2, g3, g4, g5, g6⟩ := hr
 refine VCalls.go (nt := 27) (keep := [0, 1, 2]) (muts := []) (mvs := [6]) [] f25_at rfl (by kernel_rfl) rfl (by kernel_rfl) rfl (fun i h => by cases h) rfl ?_
 intro hok
 simp only [go_sem] at hok
 simp only [Tryz.f25, Func.code, Option.getD_some]
 simp only [go_sem]
 refine call_lend ?_
 simp only [go_sem]
 refine callN.eq (ok68 r.high g1) (by simp only [go_sem]) ?_
 simp only [go_sem]
 refine call_lend ?_
 simp only [go_sem]
 refine callN.eq (ok69 r.blocks g2 g3) (by simp only [go_sem]) ?_
 simp only [go_sem]
 omega
end Go.VS
set_option linter.unusedSimpArgs false
set_option linter.unusedVariables false
open Go.Proofs
set_option maxRecDepth 20000
namespace Go.VS
theorem f108_at : gz.P.funcs[108]? = some Tryz.f108 := by
 have h : Tryz.prog.funcs[108]? = some Tryz.f108 := by kernel_rfl
 exact h
theorem list_ext_D {α : Type} [Inhabited α] {xs ys : List α} (hl : xs.length = ys.length) (h : ∀ j, j < xs.length -> xs.getD j default = ys.getD j default) : xs = ys :=
 List.ext_getElem hl fun j h1 h2 => by rw [getElem_D h1, getElem_D h2]; exact h j h1
theorem ok108 (a b : List Int) : VCalls gz 108 [.lst false 1 (a.map intA), .lst false 1 (b.map intA)] none (fun y _ => y = .lit (.bool (decide (a = b)))) := by
 refine VCalls.go (nt := 26) (keep := [0, 1, 4, 5, 10, 14, 25]) (muts := []) (mvs := []) [(6, .chain true [0, 1, 2, 3, 4, 5, 6, 7, 8])] f108_at rfl (by kernel_rfl) rfl (by kernel_rfl) rfl (fun i h => by cases h) rfl ?_
 intro hok
 simp only [go_sem] at hok
 simp only [Tryz.f108, Func.code, Option.getD_some]
 simp only [go_sem]
 intro hm1 hm2
 by_cases h1 : (a.length : Int) = (b.length : Int)
 rotate_left
 ·have : ¬ a = b := fun h => h1 (by rw [h])
  simp only [go_sem, h1, this]
 simp only [go_sem, eq_true h1]
 refine vm_loopK (α := Nat) (fun i => [(0, .lst false 1 (a.map intA)), (1, .lst false 1 (b.map intA)), (5, .lit (.int .i64 i))]) (fun i => i <= a.length /\ ∀ j, j < i -> a.getD j default = b.getD j default) (fun i => a.length - i) 0 ?_ ⟨by omega, fun j hj => by omega⟩ (by kernel_rfl) (fun _ => rfl) ?_
 ·simp only [go_sem]
  try rfl
 ·rintro i ⟨hi, he⟩ hk
  simp only [go_sem]
  intro _
  first | refine branch_ndec (fun h6 => ?_) (fun h6 => ?_) | refine branch_dec (fun h6 => ?_) (fun h6 => ?_) | refine branch_nbool (fun h6 => ?_) (fun h6 => ?_) | refine branch_split (fun h6 => ?_) (fun h6 => ?_)
  rotate_left
  ·have : a = b := list_ext_D (by omega) fun j hj => he j (by omega)
   simp only [go_sem, eq_true this]
  have hlt : i < a.length := by omega
  have hlt2 : i < b.length := by omega
  have h6b : (i : Int) < (b.length : Int) := by omega
  have h0 : (0 : Int) <= (i : Int) := by omega
  have hw3 : IntKind.i64.wrap ((i : Int) + 1) = ((i + 1 : Nat) : Int) := by rw [wrap64 (by omega) (by omega)]; omega
  simp only [go_sem, h0, hlt, h6, hlt2, h6b]
  by_cases h7 : a.getD i default = b.getD i default
  ·simp only [go_sem, eq_true h7, hw3]
   refine again_intro (i + 1) ⟨by omega, nx he h7⟩ (by omega) ?_
   simp only [go_sem]
   try rfl
  ·have : ¬ a = b := fun h => h7 (by rw [h])
   simp only [go_sem, h7, this]
end Go.VS
