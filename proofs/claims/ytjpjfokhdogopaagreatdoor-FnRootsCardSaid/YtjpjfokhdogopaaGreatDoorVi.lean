/- Device.lies: a range over slices.Backward: the iterator's contract, and the caller. -/
import Derived.Test.YtjpjfokhdogopaaGreatDoorProg
import Derived.KernelRfl
import Derived.RangeFuncNested
import Derived.RangeFuncBound
import Derived.RangeFuncCalls
import Derived.RangeFuncLeaves
import Derived.RangeFuncBox
import Derived.Shelf.Abstract
import Derived.Shelf.RegionOpen
import Derived.WalkKit
import Derived.OwnWalkIn
import Derived.TacticsInMore
import Derived.LoopNIn
import Derived.LoopIn
import Derived.Test.YtjpjfokhdogopaaGreatDoorVh
import Derived.Test.YtjpjfokhdogopaaGreatDoorVn
import Derived.Lib.ItoaLen
import Derived.Lib.AtoiErrMem
import Derived.Test.YtjpjfokhdogopaaGreatDoorShelf
namespace Go.Proofs.Lies
open Go.RowKit Go.Shelf
/-- a fact, laid aside -/
structure Aside0 (p : Prop) : Prop where
  out : p
theorem blk_cell {w : World} {g : Nat} {t : TypeId} {cs : Array Value} (h : w.heap[g]? = some (.cells cs t (0, 0))) (i : Nat) : w.cell? ⟨g, i, none⟩ = cs[i]? := by
  simp [World.cell?, h]
theorem blk_frozen {w : World} {g : Nat} {t : TypeId} {cs : Array Value} (h : w.heap[g]? = some (.cells cs t (0, 0))) (i : Nat) : w.frozen? ⟨g, i, none⟩ = false := by
  simp [World.frozen?, h]
theorem blk_put {w : World} {g : Nat} {t : TypeId} {cs cs' : Array Value} (h : w.heap[g]? = some (.cells cs t (0, 0))) (i : Nat) (v : Value) (e : cs.setIfInBounds i v = cs') : (w.setCell ⟨g, i, none⟩ v).heap[g]? = some (.cells cs' t (0, 0)) := by
  subst e
  obtain ⟨hl, he⟩ := Array.getElem?_eq_some_iff.1 h
  simp [World.setCell, Array.getElem?_modify, h]
/-- a patch, as the walk sees it -/
structure S65 where
  f0 : Int
  f1 : ByteArray
def z65 : S65 := ⟨0, ByteArray.empty⟩
/-- where texts and patches lie -/
def C0 (w : World) (A : Option Addr) (l : List ByteArray) : Prop := 0 < l.length → ∃ b off, A = some ⟨b, off, none⟩ ∧ b < w.heap.size ∧ ∀ j, j < l.length → w.cell? ⟨b, off + j, none⟩ = some (.string (l.getD j ByteArray.empty))
def C1 (w : World) (A : Option Addr) (l : List S65) : Prop := 0 < l.length → ∃ b off, A = some ⟨b, off, none⟩ ∧ b < w.heap.size ∧ ∀ j, j < l.length → w.cell? ⟨b, off + j * 2, none⟩ = some (.int .i64 (l.getD j z65).f0) ∧ w.cell? ⟨b, off + j * 2 + 1, none⟩ = some (.string (l.getD j z65).f1)
set_option linter.unusedVariables false
set_option linter.unusedSimpArgs false
attribute [local go_sem] Oper.semAt_some
/-- What has come of the indexes m - 1, m - 2, .. when k rounds are over. -/
def ls_down (m k : Nat) : List Nat := (List.range k).map fun j => m - 1 - j
theorem ls_down_succ (m k : Nat) : ls_down m (k + 1) = ls_down m k ++ [m - 1 - k] := by simp [ls_down, List.range_succ]
theorem ls_down_length (m k : Nat) : (ls_down m k).length = k := by simp [ls_down]
def ls_enc (zs : List S65) (j : Nat) : Array Value := #[.int .i64 (j : Int), .agg #[.int .i64 (zs.getD j z65).f0, .string (zs.getD j z65).f1]]
set_option maxRecDepth 100000 in
set_option maxHeartbeats 4000000 in
theorem ls_iter (F : Fence) (n : Nat) (h268 : F.fn 268) (hro : F.round = none) (hn : 1 ≤ n) (l Bs n₀ b off len cap : Nat) (zs : List S65) (hreach : len ≤ 1000000) (hb : b < n₀) (hBn : Bs < n₀) (J Jx : List Nat → World → Prop)
    (hY : ∀ pre x W, J pre W → pre.length < len → YieldAt F (n - 1) Tryz.prog l (ls_enc zs x) W fun e W' =>
      (e = .returned (.bool true) ∧ J (pre ++ [x]) W' ∧ Below n₀ W W') ∨ (e = .returned (.bool false) ∧ Jx (pre ++ [x]) W'))
    (W : World) (hBs : W.cell? ⟨Bs, 0, none⟩ = some (.slice (some ⟨b, off, none⟩) len cap))
    (hc0 : ∀ j, j < len → W.cell? ⟨b, off + j * 2, none⟩ = some (.int .i64 (zs.getD j z65).f0)) (hc1 : ∀ j, j < len → W.cell? ⟨b, off + j * 2 + 1, none⟩ = some (.string (zs.getD j z65).f1)) (h0 : J [] W) :
    CallsIn F n Tryz.prog 268 #[.func (.yield l) #[] #[], .pointer (some ⟨Bs, 0, none⟩)] W fun e W' => (∃ v, e = .returned v) ∧
      ((∃ ys, ys = ls_down len len ∧ J ys W') ∨ (∃ pre, (∃ k, 1 ≤ k ∧ k ≤ len ∧ pre = ls_down len k) ∧ Jx pre W')) := by
  refine callsIn_of_wp Tryz.func268 rfl h268 ?_ hro
  simp only [Tryz.ntmps268, List.size_toArray, List.length_cons, List.length_nil, Nat.reduceAdd, Nat.reduceSub, Array.replicate_succ, Array.replicate_zero, List.push_toArray, List.append_toArray, List.nil_append, List.cons_append]
  gi_wp2
  gi_loopw [3] (fun i wr => ∃ k : Nat, k ≤ len ∧ i = .int .i64 ((len : Int) - 1 - k) ∧ J (ls_down len k) wr ∧ Below n₀ W wr)
    (fun i _ => (intOf i + 1).toNat)
  case atStart => exact ⟨0, Nat.zero_le _, by simp, h0, Below.refl _ _⟩
  case round =>
    obtain ⟨k, hk, rfl, hJs, hnx⟩ := hrel
    have hbs := (hnx.cell (p := ⟨Bs, 0, none⟩) hBn).trans hBs
    by_cases hlt : k < len
    · obtain ⟨j, hj⟩ : ∃ j : Nat, j = len - 1 - k := ⟨_, rfl⟩
      have hji : (len : Int) - 1 - k = (j : Int) := by omega
      have hcx0 := (hnx.cell (p := ⟨b, off + j * 2, none⟩) hb).trans (hc0 j (by omega))
      have hcx1 := (hnx.cell (p := ⟨b, off + j * 2 + 1, none⟩) hb).trans (hc1 j (by omega))
      obtain ⟨fn, tmps, assign, body, hy, hR⟩ := hY _ j wr hJs (by rw [ls_down_length]; exact hlt)
      have hd : ls_down len k ++ [j] = ls_down len (k + 1) := by rw [ls_down_succ, hj]
      rw [hd] at hR
      unfold ls_enc at hy
      rw [hji]
      generalize (zs.getD j z65).f0 = f0 at *
      generalize (zs.getD j z65).f1 = f1 at *
      have hjl : j < len := by omega
      have HJ := Aside0.mk hj
      have HK := Aside0.mk hk
      have HL := Aside0.mk hlt
      clear hj hji hk hlt hd hc0 hc1
      gi_wp2
      refine hR.mono ?_
      rintro e W3 (⟨rfl, hJ3, hk3⟩ | ⟨rfl, hJx3⟩)
      · gi_wp2
        go_roundw
        case rel => exact ⟨k + 1, HL.out, by have := HJ.out; have := HL.out; first | (congr 1; omega) | (simp; omega), hJ3, hnx.trans hk3⟩
        case measure => have := HJ.out; first | (simp [intOf]; done) | (simp [intOf]; omega)
      · gi_wp2
        refine bodyPost_ret (results_none rfl _ _ _) rfl ?_
        exact ⟨⟨_, rfl⟩, .inr ⟨_, ⟨k + 1, by omega, HL.out, rfl⟩, hJx3⟩⟩
    · obtain rfl : k = len := by omega
      have : (k : Int) - 1 - k = -1 := by omega
      rw [this]
      gi_wp2
      go_end0
      exact ⟨⟨_, rfl⟩, .inl ⟨_, rfl, hJs⟩⟩
set_option maxRecDepth 100000 in
set_option maxHeartbeats 1000000 in
theorem ls_iter_nil (F : Fence) (n : Nat) (h268 : F.fn 268) (hro : F.round = none) (l Bs : Nat) (A : Option Addr) (cap : Nat) (J : List Nat → World → Prop) (W : World) (hBs : W.cell? ⟨Bs, 0, none⟩ = some (.slice A 0 cap)) (h0 : J [] W) :
    CallsIn F n Tryz.prog 268 #[.func (.yield l) #[] #[], .pointer (some ⟨Bs, 0, none⟩)] W fun e W' => (∃ v, e = .returned v) ∧ J [] W' := by
  refine callsIn_of_wp Tryz.func268 rfl h268 ?_ hro
  simp only [Tryz.ntmps268, List.size_toArray, List.length_cons, List.length_nil, Nat.reduceAdd, Nat.reduceSub, Array.replicate_succ, Array.replicate_zero, List.push_toArray, List.append_toArray, List.nil_append, List.cons_append]
  gi_wp2
  gi_loopw [3] (fun i wr => i = .int .i64 (-1) ∧ J [] wr) (fun _ _ => 0)
  case atStart => exact ⟨rfl, h0⟩
  case round =>
    obtain ⟨rfl, hJs⟩ := hrel
    gi_wp2
    go_end0
    exact ⟨⟨_, rfl⟩, hJs⟩
theorem ls_stops (F : Fence) (n : Nat) (h268 : F.fn 268) (hro : F.round = none) (hn : 1 ≤ n) (Bs n₀ : Nat) (A : Option Addr) (cap : Nat) (zs : List S65) (hreach : zs.length ≤ 1000000) (w0 w : World) (hr : C1 w0 A zs) (hbw : Below w0.heap.size w0 w) (hs0 : w0.heap.size ≤ n₀) (hBs : Bs < n₀) (hn₀ : n₀ ≤ w.heap.size)
    (hc : w.cell? ⟨Bs, 0, none⟩ = some (.slice A zs.length cap)) :
    SeqStopsK F n Tryz.prog 268 #[.pointer (some ⟨Bs, 0, none⟩)] (ls_enc zs) (Below n₀) (fun ys => ys = ls_down zs.length zs.length) (fun pre => ∃ k, 1 ≤ k ∧ k ≤ zs.length ∧ pre = ls_down zs.length k) zs.length w := fun l J Jx W hW _ _ hY h0 => by
  have hc' := (hW.cell (p := ⟨Bs, 0, none⟩) (Nat.lt_of_lt_of_le hBs hn₀)).trans hc
  have hbW : Below w0.heap.size w0 W := hbw.trans (hW.mono (Nat.le_trans hs0 hn₀))
  by_cases hp : 0 < zs.length
  · obtain ⟨b, off, rfl, hbl, hcs⟩ := hr hp
    have g0 : ∀ j, j < zs.length → W.cell? ⟨b, off + j * 2, none⟩ = some (.int .i64 (zs.getD j z65).f0) := fun j hj => (hbW.cell (p := ⟨b, off + j * 2, none⟩) hbl).trans (hcs j hj).1
    have g1 : ∀ j, j < zs.length → W.cell? ⟨b, off + j * 2 + 1, none⟩ = some (.string (zs.getD j z65).f1) := fun j hj => (hbW.cell (p := ⟨b, off + j * 2 + 1, none⟩) hbl).trans (hcs j hj).2
    exact ls_iter F n h268 hro hn l Bs n₀ b off zs.length cap zs hreach (Nat.lt_of_lt_of_le hbl hs0) hBs J Jx hY W hc' g0 g1 h0
  · have : zs = [] := List.eq_nil_of_length_eq_zero (by omega)
    subst this
    exact (ls_iter_nil F n h268 hro l Bs A cap J W hc' h0).mono fun e W' ⟨he, hj⟩ => ⟨he, .inl ⟨_, rfl, hj⟩⟩
set_option maxHeartbeats 1000000 in
theorem ls_seq (F : Fence) (n : Nat) (h253 : F.fn 253) (hro : F.round = none) (a : Option Addr) (len cap : Nat) (w : World) :
    CallsIn F n Tryz.prog 253 #[.slice a len cap] w fun e w' => e = .returned (.func (.func 268) #[] #[.pointer (some ⟨w.heap.size, 0, none⟩)]) ∧ w' = w.alloc (.cells #[.slice a len cap] 46) := by
  refine callsIn_of_wp Tryz.func253 rfl h253 ?_ hro
  simp only [Tryz.ntmps253, List.size_toArray, List.length_cons, List.length_nil, Nat.reduceAdd, Nat.reduceSub, Array.replicate_succ, Array.replicate_zero, List.push_toArray, List.append_toArray, List.nil_append, List.cons_append]
  gi_wp2
  go_ret
  exact ⟨rfl, rfl⟩
def ls_step (a : Int) (s : Option ByteArray) (p : S65) : Option ByteArray := if p.f0 = a then some p.f1 else s
theorem ls_skip (a : Int) : ∀ (l : List S65) (s : Option ByteArray), (∀ p ∈ l, p.f0 ≠ a) → l.foldl (ls_step a) s = s
  | [], _, _ => rfl
  | p :: l, s, h => by
    rw [List.foldl_cons, show ls_step a s p = s from if_neg (h p (by simp))]
    exact ls_skip a l s (fun q hq => h q (by simp [hq]))
theorem ls_hit (a : Int) (zs : List S65) (j : Nat) (hj : j < zs.length) (hit : (zs.getD j z65).f0 = a) (rest : ∀ i, j < i → i < zs.length → (zs.getD i z65).f0 ≠ a) : zs.foldl (ls_step a) none = some (zs.getD j z65).f1 := by
  have e : zs = zs.take j ++ zs[j] :: zs.drop (j + 1) := by rw [← List.drop_eq_getElem_cons hj, List.take_append_drop]
  have eg : zs.getD j z65 = zs[j] := by simp [List.getD, List.getElem?_eq_getElem hj]
  rw [eg] at hit ⊢
  refine (congrArg (List.foldl (ls_step a) none) e).trans ?_
  rw [List.foldl_append, List.foldl_cons, show ls_step a _ zs[j] = some zs[j].f1 from if_pos hit]
  refine ls_skip a _ _ (fun p hp => ?_)
  obtain ⟨i, hi, rfl⟩ := List.getElem_of_mem hp
  rw [List.length_drop] at hi
  rw [List.getElem_drop]
  have := rest (j + 1 + i) (by omega) (by omega)
  rwa [show zs.getD (j + 1 + i) z65 = zs[j + 1 + i] from by simp [List.getD, List.getElem?_eq_getElem (show j + 1 + i < zs.length by omega)]] at this
def impl_Device_lies.f (l0 : List ByteArray) (l1 : List S65) (a : Int) : Option ByteArray :=
  match l1.foldl (ls_step a) none with
  | some s => some s
  | none => if 0 ≤ a then (if a < (l0.length : Int) then some (l0.getD a.toNat ByteArray.empty) else none) else none
theorem ls_blk {W W' : World} {B : Nat} {cs : Array Value} {t : TypeId} {row : Option Nat} (h : W.heap[B]? = some (.cells cs t (0, 0))) (hg : W.grownBy W' row) (hr : ∀ r, row = some r → ∃ o : Obj, W.heap[r]? = some o ∧ o.isCells = false) : W'.heap[B]? = some (.cells cs t (0, 0)) :=
  (hg.block B (Array.getElem?_eq_some_iff.1 h).1 (fun e => by obtain ⟨o, ho, hc⟩ := hr B e.symm; rw [h] at ho; cases ho; cases hc)).trans h
set_option maxRecDepth 100000 in
set_option maxHeartbeats 8000000 in
theorem ls_lies_in (F : Fence) (n : Nat) (h216 : F.fn 216) (h253 : F.fn 253) (h268 : F.fn 268) (hro : F.round = none) (hn : 3 ≤ n) (A0 : Option Addr) (c0 : Nat) (l0 : List ByteArray) (A1 : Option Addr) (c1 : Nat) (l1 : List S65) (a : Int) (r : ByteArray) (w : World)
    (hr0 : C0 w A0 l0) (hr1 : C1 w A1 l1) (hreach : l1.length ≤ 1000000) (h : impl_Device_lies.f l0 l1 a = some r) :
    CallsIn F n Tryz.prog 216 #[.agg #[.slice A0 l0.length c0, .slice A1 l1.length c1], .int .i64 a] w fun e W' => e = .returned (.string r) ∧ Below w.heap.size w W' := by
  have h1 : 1 ≤ n := by omega
  refine callsIn_of_wp_marks Tryz.func216 rfl h216 ?_ hro
  simp only [Tryz.ntmps216, List.size_toArray, List.length_cons, List.length_nil, Nat.reduceAdd, Nat.reduceSub, Array.replicate_succ, Array.replicate_zero, List.push_toArray, List.append_toArray, List.nil_append, List.cons_append]
  gi_wp2_with (gi_at_call 253; refine (ls_seq F (n - 1) h253 hro _ _ _ _).mono ?_; rintro e w' ⟨rfl, rfl⟩)
  obtain ⟨W0, hW0⟩ : ∃ W0, (((w.alloc (Obj.cells #[Value.slice A0 l0.length c0, Value.slice A1 l1.length c1] 48)).alloc (Obj.cells #[Value.int IntKind.i64 a] 2)).alloc (Obj.cells #[Value.string { data := #[] }] 9)).alloc (Obj.cells #[Value.slice A1 l1.length c1] 46) = W0 := ⟨_, rfl⟩
  have hsz : W0.heap.size = w.heap.size + 4 := by rw [← hW0]; simp
  have bD : W0.heap[w.heap.size]? = some (.cells #[Value.slice A0 l0.length c0, Value.slice A1 l1.length c1] 48 (0, 0)) := by
    rw [← hW0]
    exact (((Below.heap_alloc _ _ _ (by first | (simp; done) | (simp; omega))).trans (Below.heap_alloc _ _ _ (by first | (simp; done) | (simp; omega)))).trans (Below.heap_alloc _ _ _ (by first | (simp; done) | (simp; omega)))).trans (World.alloc_heap_new w _)
  have bA : W0.heap[w.heap.size + 1]? = some (.cells #[Value.int IntKind.i64 a] 2 (0, 0)) := by
    rw [← hW0]
    refine ((Below.heap_alloc _ _ _ (by first | (simp; done) | (simp; omega))).trans (Below.heap_alloc _ _ _ (by first | (simp; done) | (simp; omega)))).trans ?_
    have := World.alloc_heap_new (w.alloc (Obj.cells #[Value.slice A0 l0.length c0, Value.slice A1 l1.length c1] 48)) (Obj.cells #[Value.int IntKind.i64 a] 2)
    rwa [World.size_alloc] at this
  have bR : W0.heap[w.heap.size + 1 + 1]? = some (.cells #[Value.string { data := #[] }] 9 (0, 0)) := by
    rw [← hW0]
    refine (Below.heap_alloc _ _ _ (by simp)).trans ?_
    have := World.alloc_heap_new ((w.alloc (Obj.cells #[Value.slice A0 l0.length c0, Value.slice A1 l1.length c1] 48)).alloc (Obj.cells #[Value.int IntKind.i64 a] 2)) (Obj.cells #[Value.string { data := #[] }] 9)
    rwa [World.size_alloc, World.size_alloc] at this
  have bN : W0.cell? ⟨w.heap.size + 1 + 1 + 1, 0, none⟩ = some (.slice A1 l1.length c1) := by
    rw [← hW0]
    have := World.alloc_heap_new (((w.alloc (Obj.cells #[Value.slice A0 l0.length c0, Value.slice A1 l1.length c1] 48)).alloc (Obj.cells #[Value.int IntKind.i64 a] 2)).alloc (Obj.cells #[Value.string { data := #[] }] 9)) (Obj.cells #[Value.slice A1 l1.length c1] 46)
    rw [World.size_alloc, World.size_alloc, World.size_alloc] at this
    exact (blk_cell this 0).trans rfl
  have hB0 : Below w.heap.size w W0 := by
    rw [← hW0]
    exact ((((Below.refl _ w).alloc (Nat.le_refl _) _).alloc (by first | (simp; done) | (simp; omega)) _).alloc (by first | (simp; done) | (simp; omega)) _).alloc (by first | (simp; done) | (simp; omega)) _
  rw [hW0]
  clear hW0
  refine wpIn_rangeFunc_ownH hro h1 (gf := 268) (lb := #[.pointer (some ⟨w.heap.size + 1 + 1 + 1, 0, none⟩)]) rfl h268 (enters_of Tryz.func268 (by kernel_rfl) rfl)
    (ls_stops F (n - 1) h268 hro (by omega) (w.heap.size + 1 + 1 + 1) (w.heap.size + 4) A1 c1 l1 hreach w W0 hr1 hB0 (by omega) (by omega) (by omega) bN) belowK_t (belowK_b (by omega)) (Below.refl _ _) (fun _ => rfl)
    (fun pre W => ((∀ i ∈ pre, (l1.getD i z65).f0 ≠ a) ∧ W.heap[w.heap.size + 1 + 1]? = some (.cells #[Value.string { data := #[] }] 9 (0, 0)) ∧ W.heap[w.heap.size + 1]? = some (.cells #[Value.int IntKind.i64 a] 2 (0, 0)) ∧ W.heap[w.heap.size]? = some (.cells #[Value.slice A0 l0.length c0, Value.slice A1 l1.length c1] 48 (0, 0)) ∧ w.heap.size + 4 ≤ W.heap.size) ∧ Below w.heap.size w W)
    (fun c pre W => (c = .ret ∧ ∃ ini j, pre = ini ++ [j] ∧ (∀ i ∈ ini, (l1.getD i z65).f0 ≠ a) ∧ (l1.getD j z65).f0 = a ∧ W.heap[w.heap.size + 1 + 1]? = some (.cells #[Value.string (l1.getD j z65).f1] 9 (0, 0))) ∧ Below w.heap.size w W)
    (OwnFrom.and (Own.from (fun s X Y row hs hg hr => ⟨hs.1, ls_blk hs.2.1 hg hr, ls_blk hs.2.2.1 hg hr, ls_blk hs.2.2.2.1 hg hr, Nat.le_trans hs.2.2.2.2 hg.size⟩) _) (ownFrom_below (Nat.le_refl _) (by omega)))
    (fun c => OwnFrom.and (Own.from (fun s X Y row hs hg hr => by obtain ⟨hc, ini, j, e1, e2, e3, e4⟩ := hs; exact ⟨hc, ini, j, e1, e2, e3, ls_blk e4 hg hr⟩) _) (ownFrom_below (Nat.le_refl _) (by omega)))
    ⟨⟨by simp, bR, bA, bD, by omega⟩, hB0⟩
    (fun x a' W => ∃ Bx, w.heap.size + 4 ≤ Bx ∧ W.heap[Bx]? = some (.cells #[Value.int IntKind.i64 (l1.getD x z65).f0, Value.string (l1.getD x z65).f1] 170 (0, 0)) ∧ a' = { tmps := #[Value.agg #[Value.slice A0 l0.length c0, Value.slice A1 l1.length c1], Value.int IntKind.i64 a, Value.pointer (some { block := w.heap.size, off := 0 }), Value.pointer (some { block := w.heap.size + 1, off := 0 }), Value.pointer (some { block := w.heap.size + 1 + 1, off := 0 }), undef, Value.pointer (some ⟨Bx, 0, none⟩), Value.pointer (some { block := w.heap.size, off := 1 }), Value.slice A1 l1.length c1, Value.func (Fn.func 268) #[] #[Value.pointer (some { block := w.heap.size + 1 + 1 + 1, off := 0 })], Value.int IntKind.i64 (x : Int), Value.agg #[Value.int IntKind.i64 (l1.getD x z65).f0, Value.string (l1.getD x z65).f1], undef, undef, undef, undef, undef, undef, undef, undef, undef, undef, undef], defers := [] })
    (fun x a' _ X Y row hs hg hr => by obtain ⟨Bx, g1, g2, g3⟩ := hs; exact ⟨Bx, g1, ls_blk g2 hg (fun r e => (hr r e).2), g3⟩)
    ?assign ?body ?done ?stop
  case assign =>
    rintro l pre x W K ⟨⟨i0, i1, i2, i3, i4⟩, hB1⟩ hK
    unfold ls_enc
    generalize (l1.getD x z65).f0 = f0 at *
    generalize (l1.getD x z65).f1 = f1 at *
    gi_wp2
    have lt := fun {B : Nat} {o : Obj} (h : W.heap[B]? = some o) => (Array.getElem?_eq_some_iff.1 h).1
    exact hK _ _ ((KeepsOthers.alloc _ _).from _) ((Below.refl _ W).alloc i4 _) ⟨⟨i0, (Below.heap_alloc W _ _ (lt i1)).trans i1, (Below.heap_alloc W _ _ (lt i2)).trans i2, (Below.heap_alloc W _ _ (lt i3)).trans i3, by simp; omega⟩, hB1.alloc hB1.size _⟩ ⟨W.heap.size, i4, World.alloc_heap_new W _, rfl⟩
  case body =>
    rintro l pre x a' W hl ⟨rr, hrr⟩ ⟨⟨i0, i1, i2, i3, i4⟩, hB1⟩ ⟨Bx, hBx, bX, rfl⟩ hlt
    have cX0 : W.cell? ⟨Bx, 0, none⟩ = some (.int .i64 (l1.getD x z65).f0) := (blk_cell bX 0).trans rfl
    have cX1 : W.cell? ⟨Bx, 1, none⟩ = some (.string (l1.getD x z65).f1) := (blk_cell bX 1).trans rfl
    have cA : W.cell? ⟨w.heap.size + 1, 0, none⟩ = some (.int .i64 a) := (blk_cell i2 0).trans rfl
    have cR : W.cell? ⟨w.heap.size + 1 + 1, 0, none⟩ = some (.string { data := #[] }) := (blk_cell i1 0).trans rfl
    have fR := blk_frozen i1 0
    by_cases hfa : (l1.getD x z65).f0 = a
    · have hset := blk_put i1 0 (.string (l1.getD x z65).f1) rfl
      have HS := Aside0.mk hset
      have HF := Aside0.mk hfa
      clear hset
      rw [hfa] at cX0
      gi_wp2
      exact ⟨(KeepsOthers.setCell _ _ _).from _, ⟨rfl, pre, x, rfl, i0, HF.out, HS.out⟩, hB1.setCell (p := ⟨w.heap.size + 1 + 1, 0, none⟩) (by simp; omega) _⟩
    · have HF := Aside0.mk hfa
      generalize (l1.getD x z65).f0 = f0 at cX0 hfa bX
      gi_wp2
      replace hfa := HF.out
      exact ⟨(KeepsOthers.refl _).from _, Below.refl _ _, ⟨fun i hi => (List.mem_append.1 hi).elim (i0 i) (fun e => by simp at e; subst e; exact hfa), i1, i2, i3, i4⟩, hB1⟩
  case done =>
    rintro D ys W hD rfl ⟨⟨i0, i1, i2, i3, i4⟩, hB1⟩ hK
    have hnone : l1.foldl (ls_step a) none = none := ls_skip a l1 none (fun p hp => by
      obtain ⟨i, hi, rfl⟩ := List.getElem_of_mem hp
      have := i0 i (by simp only [ls_down, List.mem_map, List.mem_range]; exact ⟨l1.length - 1 - i, by omega, by omega⟩)
      rwa [show l1.getD i z65 = l1[i] from by simp [List.getD, List.getElem?_eq_getElem hi]] at this)
    unfold impl_Device_lies.f at h
    rw [hnone] at h
    simp only at h
    by_cases ha : 0 ≤ a
    case neg => rw [if_neg ha] at h; cases h
    rw [if_pos ha] at h
    by_cases hal : a < (l0.length : Int)
    case neg => rw [if_neg hal] at h; cases h
    rw [if_pos hal] at h
    have hr := Option.some.inj h
    obtain ⟨b0, off0, rfl, hbl0, hcs0⟩ := hr0 (by omega)
    have hv : W.cell? ⟨b0, off0 + a.toNat, none⟩ = some (.string (l0.getD a.toNat ByteArray.empty)) := (hB1.cell (p := ⟨b0, off0 + a.toNat, none⟩) hbl0).trans (hcs0 a.toNat (by omega))
    rw [hr] at hv
    have cA : W.cell? ⟨w.heap.size + 1, 0, none⟩ = some (.int .i64 a) := (blk_cell i2 0).trans rfl
    have cD : W.cell? ⟨w.heap.size, 0, none⟩ = some (.slice (some ⟨b0, off0, none⟩) l0.length c0) := (blk_cell i3 0).trans rfl
    have cR : W.cell? ⟨w.heap.size + 1 + 1, 0, none⟩ = some (.string { data := #[] }) := (blk_cell i1 0).trans rfl
    have fR := blk_frozen i1 0
    have hset := blk_put i1 0 (.string r) rfl
    clear hcs0 h hr i0 hnone
    gi_wp2
    have hK' := (KeepsOthers.setCell W ⟨w.heap.size + 1 + 1, 0, none⟩ (.string r)).same D _ hK rfl
    have hB2 := hB1.setCell (p := ⟨w.heap.size + 1 + 1, 0, none⟩) (by simp; omega) (.string r)
    refine ⟨by simp, .inl ⟨_, _, rfl, run_takeDeferred hK', ?_⟩⟩
    have hc5 := cell_kept (World.cell?_setCell_same' W ⟨w.heap.size + 1 + 1, 0, none⟩ (.string r) (by rw [cR]; rfl)) (grownBy_putObj' _ D (.deferred none)) (fun r e => by cases e; exact ⟨_, hK', rfl⟩)
    refine ⟨.string r, ?_, rfl, hB2.trans (belowK_b (w := w) (Nat.le_refl _) _ D _ _ (by omega) hK' rfl rfl)⟩
    simp [results, Tryz.f216, go_sem, hc5]
  case stop =>
    rintro D c pre W hD hS ⟨⟨rfl, ini, j, hpre, e2, e3, e4⟩, hB1⟩ hK
    have hj : j < l1.length ∧ ∀ i, j < i → i < l1.length → i ∈ ini := by
      obtain ⟨k, k1, k2, k3⟩ := hS
      obtain ⟨k, rfl⟩ : ∃ q, k = q + 1 := ⟨k - 1, by omega⟩
      rw [ls_down_succ] at k3
      rw [k3] at hpre
      obtain ⟨g1, g2⟩ := List.append_inj' hpre rfl
      simp at g2
      refine ⟨by omega, fun i hi1 hi2 => ?_⟩
      rw [← g1]
      simp only [ls_down, List.mem_map, List.mem_range]
      exact ⟨l1.length - 1 - i, by omega, by omega⟩
    have hhit := ls_hit a l1 j hj.1 e3 (fun i g1 g2 => e2 i (hj.2 i g1 g2))
    unfold impl_Device_lies.f at h
    rw [hhit] at h
    have hr := Option.some.inj h
    rw [hr] at e4
    have cR : W.cell? ⟨w.heap.size + 1 + 1, 0, none⟩ = some (.string r) := (blk_cell e4 0).trans rfl
    clear h hr hhit e3 e2 hpre hS hj
    gi_wp2
    refine ⟨by simp, .inl ⟨_, _, rfl, run_takeDeferred hK, ?_⟩⟩
    have hc5 := cell_kept cR (grownBy_putObj' _ D (.deferred none)) (fun r e => by cases e; exact ⟨_, hK, rfl⟩)
    refine ⟨.string r, ?_, rfl, hB1.trans (belowK_b (w := w) (Nat.le_refl _) _ D _ _ (by omega) hK rfl rfl)⟩
    simp [results, Tryz.f216, go_sem, hc5]
/-- THE CONTRACT, in the print's form. -/
theorem impl_Device_lies.calls (A0_0 : Option Addr) (c0_0 : Nat) (l0_0 : List ByteArray) (A0_1 : Option Addr) (c0_1 : Nat) (l0_1 : List S65) (a1 : Int) (r : ByteArray) (w : World)
    (hr0_0 : C0 w A0_0 l0_0) (hr0_1 : C1 w A0_1 l0_1) (h : impl_Device_lies.f l0_0 l0_1 a1 = some r) (hreach : l0_1.length ≤ 1000000) :
    Calls Tryz.prog 216 #[.agg #[.slice A0_0 l0_0.length c0_0, .slice A0_1 l0_1.length c0_1], .int .i64 a1] w fun e w' => e = .returned (.string r) ∧ Below w.heap.size w w' :=
  (callsIn_wide (n := 3)).1 (ls_lies_in Fence.wide 3 trivial trivial trivial rfl (by omega) A0_0 c0_0 l0_0 A0_1 c0_1 l0_1 a1 r w hr0_0 hr0_1 hreach h)
end Go.Proofs.Lies

/- VS: the library's functions, by the contracts of the shelf. -/
set_option linter.unusedSimpArgs false
set_option linter.unusedVariables false
open Go.Proofs Go.RowKit
set_option maxRecDepth 20000
namespace Go.VS
/-- a number, written out -/
def itoaB (n : Int) : ByteArray := ⟨(Lib.itoa n).toArray⟩
theorem itoaB_size (n : Int) (h : -9223372036854775808 ≤ n ∧ n ≤ 9223372036854775807) : (itoaB n).size ≤ 21 := by
  have := Lib.itoa_length_le n h.1 h.2
  simpa [itoaB, ByteArray.size] using this
theorem lit_rng {n : Int} (h : litOk (.int .i64 n)) : -9223372036854775808 ≤ n ∧ n ≤ 9223372036854775807 := by
  simpa [litOk, IntKind.min, IntKind.max, IntKind.bits, IntKind.signed] using h
theorem rng_lit {n : Int} (h : -9223372036854775808 ≤ n ∧ n ≤ 9223372036854775807) : IntKind.i64.min ≤ n ∧ n ≤ IntKind.i64.max := by
  simpa [IntKind.min, IntKind.max, IntKind.bits, IntKind.signed] using h
theorem at254 : gz.P.funcs[254]? = some Tryz.f254 := by
  have h : Tryz.prog.funcs[254]? = some Tryz.f254 := by kernel_rfl
  exact h
theorem at135 : gz.P.funcs[135]? = some Tryz.f135 := by
  have h : Tryz.prog.funcs[135]? = some Tryz.f135 := by kernel_rfl
  exact h
theorem at219 : gz.P.funcs[219]? = some Tryz.f219 := by
  have h : Tryz.prog.funcs[219]? = some Tryz.f219 := by kernel_rfl
  exact h
theorem at220 : gz.P.funcs[220]? = some Tryz.f220 := by
  have h : Tryz.prog.funcs[220]? = some Tryz.f220 := by kernel_rfl
  exact h
theorem ok254 (n : Int) : VCalls gz 254 [.lit (.int .i64 n), .lit (.int .i64 10)] none (fun y _ => y = .lit (.string (itoaB n))) := by
  refine VCalls.of_bare (enterC at254 (by kernel_rfl) (by kernel_rfl)) rfl fun w S args hsz hg hS hrep => ?_
  obtain ⟨v0, v1, rfl⟩ : ∃ v0 v1, args = #[v0, v1] := by
    match args, hsz with
    | ⟨[v0, v1]⟩, _ => exact ⟨v0, v1, rfl⟩
  obtain ⟨rfl, h0⟩ := (hrep 0 v0 _ rfl rfl).lit
  obtain ⟨rfl, _⟩ := (hrep 1 v1 _ rfl rfl).lit
  have hr := lit_rng h0
  refine (Tryz.internal_strconv_FormatInt_10 n hr.1 hr.2 w hg.1).mono ?_
  rintro e w' ⟨rfl, k, os, rfl⟩
  exact ⟨⟨_, rfl, .str (by have := itoaB_size n hr; simp only [maxLen]; unfold itoaB at this; omega)⟩, below_growN _ _ _⟩
/-- what stands ahead of the first sep, and what behind -/
def cut1 (s sep : ByteArray) : ByteArray := ⟨(Lib.cut s.data.toList sep.data.toList).1.toArray⟩
def cut2 (s sep : ByteArray) : ByteArray := ⟨(Lib.cut s.data.toList sep.data.toList).2.1.toArray⟩
def cut3 (s sep : ByteArray) : Bool := (Lib.cut s.data.toList sep.data.toList).2.2
theorem cut1_size (s sep : ByteArray) : (cut1 s sep).size ≤ s.size := by
  have : (Lib.cut s.data.toList sep.data.toList).1.length ≤ s.data.toList.length := by
    unfold Lib.cut
    split
    · simp only [List.length_take]; omega
    · exact Nat.le_refl _
  show (Lib.cut s.data.toList sep.data.toList).1.toArray.size ≤ s.data.size
  rw [List.size_toArray, ← Array.length_toList]
  exact this
theorem cut2_size (s sep : ByteArray) : (cut2 s sep).size ≤ s.size := by
  have : (Lib.cut s.data.toList sep.data.toList).2.1.length ≤ s.data.toList.length := by
    unfold Lib.cut
    split
    · simp only [List.length_drop]; omega
    · simp
  show (Lib.cut s.data.toList sep.data.toList).2.1.toArray.size ≤ s.data.size
  rw [List.size_toArray, ← Array.length_toList]
  exact this
theorem ok135 (s sep : ByteArray) (hs : s.size < 4294967281) : VCalls gz 135 [.lit (.string s), .lit (.string sep)] none (fun y _ => y = .tup [.lit (.string (cut1 s sep)), .lit (.string (cut2 s sep)), .lit (.bool (cut3 s sep))]) := by
  refine VCalls.of_bare (enterC at135 (by kernel_rfl) (by kernel_rfl)) rfl fun w S args hsz hg hS hrep => ?_
  obtain ⟨v0, v1, rfl⟩ : ∃ v0 v1, args = #[v0, v1] := by
    match args, hsz with
    | ⟨[v0, v1]⟩, _ => exact ⟨v0, v1, rfl⟩
  obtain ⟨rfl, h0⟩ := (hrep 0 v0 _ rfl rfl).lit
  obtain ⟨rfl, _⟩ := (hrep 1 v1 _ rfl rfl).lit
  obtain ⟨m, hm⟩ := hg.2.1
  refine (Tryz.strings_Cut s sep m w hs hm).mono ?_
  rintro e w' ⟨rfl, k, rfl⟩
  have h1 := cut1_size s sep
  have h2 := cut2_size s sep
  simp only [litOk] at h0
  exact ⟨⟨_, rfl, .three (.str (s := cut1 s sep) (by omega)) (.str (s := cut2 s sep) (by omega)) .bool (by simp) (by simp) (by simp)⟩, below_drew _ _⟩
def trimP (s p : ByteArray) : ByteArray := ⟨(Lib.trimPrefix s.data.toList p.data.toList).toArray⟩
theorem trimP_size (s p : ByteArray) : (trimP s p).size ≤ s.size := by
  have : (Lib.trimPrefix s.data.toList p.data.toList).length ≤ s.data.toList.length := by
    unfold Lib.trimPrefix
    split
    · simp only [List.length_drop]; omega
    · exact Nat.le_refl _
  show (Lib.trimPrefix s.data.toList p.data.toList).toArray.size ≤ s.data.size
  rw [List.size_toArray, ← Array.length_toList]
  exact this
theorem ok219 (s p : ByteArray) : VCalls gz 219 [.lit (.string s), .lit (.string p)] none (fun y _ => y = .lit (.string (trimP s p))) := by
  refine VCalls.of_bare (enterC at219 (by kernel_rfl) (by kernel_rfl)) rfl fun w S args hsz hg hS hrep => ?_
  obtain ⟨v0, v1, rfl⟩ : ∃ v0 v1, args = #[v0, v1] := by
    match args, hsz with
    | ⟨[v0, v1]⟩, _ => exact ⟨v0, v1, rfl⟩
  obtain ⟨rfl, h0⟩ := (hrep 0 v0 _ rfl rfl).lit
  obtain ⟨rfl, _⟩ := (hrep 1 v1 _ rfl rfl).lit
  refine (Tryz.strings_TrimPrefix s p w).mono ?_
  rintro e w' ⟨rfl, rfl⟩
  have h1 := trimP_size s p
  simp only [litOk] at h0
  exact ⟨⟨_, rfl, .str (s := trimP s p) (by omega)⟩, Below.refl _ _⟩
theorem parseU_lt : ∀ (l : List UInt8) (acc u : Nat), acc < 2 ^ 64 → Lib.parseUintM (2 ^ 64 - 1) acc l = .ok u → u < 2 ^ 64
  | [], acc, u, h0, h => by simp only [Lib.parseUintM] at h; cases h; exact h0
  | c :: r, acc, u, h0, h => by
    simp only [Lib.parseUintM] at h
    split at h
    · split at h
      · cases h
      · split at h
        · cases h
        · exact parseU_lt r _ u (by omega) h
    · cases h
theorem parseI_rng {l : List UInt8} {v : Int} (h : Lib.parseIntB 64 l = .ok v) : -9223372036854775808 ≤ v ∧ v ≤ 9223372036854775807 := by
  unfold Lib.parseIntB at h
  split at h
  · cases h
  · simp only at h
    split at h
    · cases h
    · cases h
    · rename_i u hu
      split at h
      · cases h
      · split at h
        · cases h
        · rename_i h1 h2
          cases h
          split <;> omega
theorem intSat_rng (l : List UInt8) : -9223372036854775808 ≤ Lib.intSat 64 l ∧ Lib.intSat 64 l ≤ 9223372036854775807 := by
  unfold Lib.intSat
  split <;> exact ⟨by decide, by decide⟩
/-- what ParseInt answers: a number, and whether there is no error -/
def parsedV (s : ByteArray) : AVal := match Lib.parseIntB 64 s.data.toList with
  | .ok v => .tup [.lit (.int .i64 v), .lit .nilIface]
  | .range => .tup [.lit (.int .i64 (Lib.intSat 64 s.data.toList)), .ifc]
  | _ => .tup [.lit (.int .i64 0), .ifc]
theorem ok220 (s : ByteArray) (hs : s.size ≤ 4294967280) : VCalls gz 220 [.lit (.string s), .lit (.int .i64 10), .lit (.int .i64 64)] none (fun y _ => y = parsedV s) := by
  have hn : noRef (parsedV s) = true := by unfold parsedV; split <;> rfl
  refine VCalls.of_bare (enterC at220 (by kernel_rfl) (by kernel_rfl)) hn fun w S args hsz hg hS hrep => ?_
  obtain ⟨v0, v1, v2, rfl⟩ : ∃ v0 v1 v2, args = #[v0, v1, v2] := by
    match args, hsz with
    | ⟨[v0, v1, v2]⟩, _ => exact ⟨v0, v1, v2, rfl⟩
  obtain ⟨rfl, h0⟩ := (hrep 0 v0 _ rfl rfl).lit
  obtain ⟨rfl, _⟩ := (hrep 1 v1 _ rfl rfl).lit
  obtain ⟨rfl, _⟩ := (hrep 2 v2 _ rfl rfl).lit
  cases hp : Lib.parseIntB 64 s.data.toList with
  | ok v =>
    refine (Tryz.strconv_ParseInt_ok s (by omega) v hp w).mono ?_
    rintro e w' ⟨rfl, h⟩
    refine ⟨⟨_, rfl, ?_⟩, ?_⟩
    · rw [parsedV, hp]
      exact .two (.int (rng_lit (parseI_rng hp))) .nilI (by simp) (by simp)
    · rcases h with rfl | ⟨t, rfl⟩
      · exact Below.refl _ _
      · exact Lib.bytesWorld_below _ _ _
  | range =>
    obtain ⟨ev, h1, h2⟩ := hg.2.2.2
    refine (Tryz.strconv_ParseInt_range s (by omega) hp ev w h1 h2).mono ?_
    rintro e w' ⟨t, N, rfl, hb⟩
    refine ⟨⟨_, rfl, ?_⟩, hb⟩
    rw [parsedV, hp]
    exact .two (.int (rng_lit (intSat_rng _))) .ifc (by simp) (by simp)
  | _ =>
    obtain ⟨ev, h1, h2⟩ := hg.2.2.1
    refine (Tryz.strconv_ParseInt_other s (by omega) (by rw [hp]; simp) (by rw [hp]; simp) ev w h1 h2).mono ?_
    rintro e w' ⟨t, N, rfl, hb⟩
    refine ⟨⟨_, rfl, ?_⟩, hb⟩
    rw [parsedV, hp]
    exact .two (.int (rng_lit ⟨by decide, by decide⟩)) .ifc (by simp) (by simp)
end Go.VS

/- VS: how a device is read: a range over what goes backwards; its walk is the kit's own. -/
set_option linter.unusedSimpArgs false
set_option linter.unusedVariables false
open Go.Proofs Go.RowKit
set_option maxRecDepth 20000
namespace Go.VS
/-- a function whose walk was made elsewhere, and which answers with a literal -/
theorem VCalls.of_calls {g : Sys} {f : FuncId} {xs : List AVal} {v : Value} (hent : ∀ args w, (callFunc f args).run g.P w = .ok (.enter f args) w)
    (h : ∀ (w : World) (S : Nat → Prop) (args : Array Value), args.size = xs.length → (∀ b, S b → b < w.heap.size) → (∀ (i : Nat) (v : Value) (x : AVal), args[i]? = some v → xs[i]? = some x → RepV w.heap S (fun _ => none) ⟨i, []⟩ v x) →
      litOk v ∧ isAggV v = false ∧ v.cells.toList = [v] ∧ Calls g.P f args w fun e w' => e = .returned v ∧ Below w.heap.size w w') : VCalls g f xs none (fun y _ => y = .lit v) := by
  intro w S o args hsz hwo hown hrep
  have ho : o = fun _ => none := by
    funext b
    cases hb : o b with
    | none => rfl
    | some l =>
      have := (hown b l hb).1
      cases this
  subst ho
  obtain ⟨h1, h2, h2', h3⟩ := h w S args hsz (fun b hb => (hwo.sh b hb).2) hrep
  unfold Gives
  rw [hent]
  refine Calls.mono h3 ?_
  rintro e w' ⟨rfl, hb⟩
  have hp : ∀ b, b < w.heap.size → w'.heap[b]? = w.heap[b]? := fun b hb' => hb.block b hb'
  refine ⟨.lit v, .undef, S, fun _ => none, rfl, ⟨fun b m hm => (by cases hm), fun b b' m hm => (by cases hm), fun b m hm => (by cases hm), fun b hb' => ⟨rfl, Nat.lt_of_lt_of_le (hwo.sh b hb').2 hb.size⟩, g.stay w w' (fun b hb' => hp b (Nat.lt_of_lt_of_le hb' hwo.ngs)) hwo.gl, Nat.le_trans hwo.ngs hb.size⟩,
    ⟨hb.os, hb.tape, hb.output, hb.size, fun b hb' _ => ⟨rfl, hp b hb'⟩, fun b hb' => hb', fun b hb' => .inl hb', fun b hb' => .of_eq (hp b hb')⟩, fun b l hl => (by cases hl), ?_, by simp [noRef], fun i u hi => (by cases hi)⟩
  exact .inl (.inr ⟨by rw [h2']; exact .shd (.lit h1), by rw [h2]; rfl⟩)

/-- what is shared, looked into -/
theorem shd_parts {h : Array Obj} {S : Nat → Prop} {l : Loc} {v : Value} {xs : List AVal} (r : RepV h S (fun _ => none) l v (.agg xs)) : ∃ cs : Array Value, v = .agg cs ∧ ∃ css : List (List Value), css.length = xs.length ∧ cs.toList = css.flatten ∧
    ∀ (i : Nat) (c : List Value) (x : AVal), css[i]? = some c → xs[i]? = some x → Rep h S (fun _ => none) (l.fld i) c x := by
  rcases r with (r | ⟨r, hg⟩) | ⟨vs, ys, h1, _⟩
  · cases r
  · cases v with
    | agg cs =>
      obtain ⟨css, h1, h2, h3⟩ := r.agg_inv
      exact ⟨cs, rfl, css, h1, h2, h3⟩
    | _ => simp [isAggA, isAggV] at hg
  · cases h1

theorem take1 {cs : List Value} {n : Nat} {v : Value} (h : (cs.drop n).take 1 = [v]) : cs[n]? = some v := by
  have := congrArg (fun l => l[0]?) h
  simpa [List.getElem?_take, List.getElem?_drop] using this
theorem take2 {cs : List Value} {n : Nat} {u v : Value} (h : (cs.drop n).take 2 = [u, v]) : cs[n]? = some u ∧ cs[n + 1]? = some v := by
  have h0 := congrArg (fun l => l[0]?) h
  have h1 := congrArg (fun l => l[1]?) h
  simp [List.getElem?_take, List.getElem?_drop] at h0 h1
  exact ⟨h0, h1⟩
theorem lies_C0 {w : World} {S : Nat → Prop} (hS : ∀ b, S b → b < w.heap.size) {l : Loc} {c : List Value} {ss : List ByteArray} (r : Rep w.heap S (fun _ => none) l c (.lst false 1 (ss.map strA))) : ∃ A cap, c = [.slice A ss.length cap] ∧ Lies.C0 w A ss := by
  rcases r.shd_lst_inv.lst_inv with ⟨_, ⟨ad, cap, rfl, h1, _⟩ | ⟨b, off, cap, cur, t, fr, rfl, h1, h2, h3, h4, h5, h6⟩⟩
  · have : ss = [] := by simpa using h1
    subst this
    exact ⟨ad, cap, rfl, fun h => by simp at h⟩
  · refine ⟨some ⟨b, off, none⟩, cap, by rw [List.length_map], fun _ => ⟨b, off, rfl, hS b h2, fun j hj => ?_⟩⟩
    have h7 : RepS w.heap S ((cur.toList.drop (off + j * 1)).take 1) (strA (ss.getD j ByteArray.empty)) := h6 j _ (by simp [hj, List.getD])
    have h8 := take1 (Rep.lit_inv (.shd h7 : Rep w.heap S (fun _ => none) l _ _)).1
    rw [Nat.mul_one, Array.getElem?_toList] at h8
    simp only [World.cell?, h1]
    exact h8
theorem lies_C1 {w : World} {S : Nat → Prop} (hS : ∀ b, S b → b < w.heap.size) {l : Loc} {c : List Value} {ps : List Patch} (r : Rep w.heap S (fun _ => none) l c (.lst false 2 (ps.map Patch.enc))) :
    ∃ A cap, c = [.slice A (ps.map fun p => Lies.S65.mk p.place p.text).length cap] ∧ Lies.C1 w A (ps.map fun p => Lies.S65.mk p.place p.text) := by
  rcases r.shd_lst_inv.lst_inv with ⟨_, ⟨ad, cap, rfl, h1, _⟩ | ⟨b, off, cap, cur, t, fr, rfl, h1, h2, h3, h4, h5, h6⟩⟩
  · have : ps = [] := by simpa using h1
    subst this
    exact ⟨ad, cap, rfl, fun h => by simp at h⟩
  · refine ⟨some ⟨b, off, none⟩, cap, by simp only [List.length_map], fun _ => ⟨b, off, rfl, hS b h2, fun j hj => ?_⟩⟩
    have hj' : j < ps.length := by simpa using hj
    have h7 : RepS w.heap S ((cur.toList.drop (off + j * 2)).take 2) (Patch.enc (ps.getD j default)) := h6 j _ (by simp [hj', List.getD])
    obtain ⟨css, g1, g2, g3⟩ := Rep.agg_inv (.shd h7 : Rep w.heap S (fun _ => none) l _ (.agg [.lit (.int .i64 (ps.getD j default).place), .lit (.string (ps.getD j default).text)]))
    match css, g1 with
    | [c0, c1], _ =>
      have e0 := (g3 0 c0 _ rfl rfl).lit_inv.1
      have e1 := (g3 1 c1 _ rfl rfl).lit_inv.1
      subst e0 e1
      have h8 := take2 (u := .int .i64 (ps.getD j default).place) (v := .string (ps.getD j default).text) (g2.trans rfl)
      rw [Array.getElem?_toList, Array.getElem?_toList] at h8
      have e : (ps.map fun p => Lies.S65.mk p.place p.text).getD j Lies.z65 = ⟨(ps.getD j default).place, (ps.getD j default).text⟩ := by
        simp [List.getD, hj']
      rw [e]
      simp only [World.cell?, h1]
      exact h8

theorem liesN_foldl (ps : List Patch) (a : Int) (s : ByteArray) : ∀ n, n ≤ ps.length → liesN ps a s n = (((ps.take n).map fun p => Lies.S65.mk p.place p.text).foldl (Lies.ls_step a) none).getD s
  | 0, _ => by simp [liesN]
  | n + 1, h => by
    rw [take_succ_getD (by omega), List.map_append, List.foldl_append]
    simp only [List.map_cons, List.map_nil, List.foldl_cons, List.foldl_nil, liesN, Lies.ls_step]
    split
    · rfl
    · exact liesN_foldl ps a s n (by omega)
theorem foldl_ls (a : Int) : ∀ (l : List Lies.S65) (o : Option ByteArray), (∃ p ∈ l, l.foldl (Lies.ls_step a) o = some p.f1) ∨ l.foldl (Lies.ls_step a) o = o
  | [], o => .inr rfl
  | p :: l, o => by
    rw [List.foldl_cons]
    rcases foldl_ls a l (Lies.ls_step a o p) with ⟨q, hq, h⟩ | h
    · exact .inl ⟨q, by simp [hq], h⟩
    · rw [h]
      unfold Lies.ls_step
      split
      · exact .inl ⟨p, by simp, rfl⟩
      · exact .inr rfl
theorem liesN_size (ps : List Patch) (a : Int) (s : ByteArray) (m : Nat) (h1 : s.size ≤ m) (h2 : ∀ p ∈ ps, p.text.size ≤ m) : ∀ n, n ≤ ps.length → (liesN ps a s n).size ≤ m
  | 0, _ => h1
  | n + 1, h => by
    simp only [liesN]
    split
    · exact h2 _ (getD_mem (by omega))
    · exact liesN_size ps a s m h1 h2 n (by omega)

theorem ok216 (d : Dev) (a : Int) (h1 : 0 ≤ a) (h2 : a < d.secs.length) (hl : d.late.length ≤ 1000000) : VCalls gz 216 [d.enc false, .lit (.int .i64 a)] none (fun y _ => y = .lit (.string (liesN d.late a (d.secs.getD a.toNat default) d.late.length))) := by
  have hat : gz.P.funcs[216]? = some Tryz.f216 := by
    have h : Tryz.prog.funcs[216]? = some Tryz.f216 := by kernel_rfl
    exact h
  refine VCalls.of_calls (enterC hat (by kernel_rfl) (by kernel_rfl)) fun w S args hsz hS hrep => ?_
  obtain ⟨v0, v1, rfl⟩ : ∃ v0 v1, args = #[v0, v1] := by
    match args, hsz with
    | ⟨[v0, v1]⟩, _ => exact ⟨v0, v1, rfl⟩
  have r0 := hrep 0 v0 _ rfl rfl
  have r1 := (hrep 1 v1 _ rfl rfl).lit.1
  subst r1
  have hk := r0.okA
  simp only [Dev.enc, okA, okAs, and_true] at hk
  obtain ⟨cs, rfl, css, g1, g2, g3⟩ := shd_parts r0
  match css, g1 with
  | [c0, c1], _ =>
    obtain ⟨A0, k0, rfl, C0⟩ := lies_C0 hS (g3 0 c0 _ rfl rfl)
    obtain ⟨A1, k1, rfl, C1⟩ := lies_C1 hS (g3 1 c1 _ rfl rfl)
    have hcs : cs = #[.slice A0 d.secs.length k0, .slice A1 (d.late.map fun p => Lies.S65.mk p.place p.text).length k1] := by
      apply Array.toList_inj.1
      rw [g2]
      rfl
    subst hcs
    have hr : Lies.impl_Device_lies.f d.secs (d.late.map fun p => Lies.S65.mk p.place p.text) a = some (liesN d.late a (d.secs.getD a.toNat default) d.late.length) := by
      rw [liesN_foldl _ _ _ _ (Nat.le_refl _), List.take_length]
      unfold Lies.impl_Device_lies.f
      cases hf : List.foldl (Lies.ls_step a) none (d.late.map fun p => Lies.S65.mk p.place p.text) with
      | some s => rfl
      | none =>
        simp only [if_pos h1, if_pos h2]
        rfl
    have hsize : (liesN d.late a (d.secs.getD a.toNat default) d.late.length).size ≤ maxLen := by
      refine liesN_size _ _ _ _ ?_ ?_ _ (Nat.le_refl _)
      · have := okAs_all.1 hk.1.2 (strA (d.secs.getD a.toNat default)) (List.mem_map.2 ⟨_, getD_mem (by omega), rfl⟩)
        simpa [okA, strA, litOk] using this
      · intro p hp
        have := okAs_all.1 hk.2.2 p.enc (List.mem_map.2 ⟨p, hp, rfl⟩)
        simp only [Patch.enc, okA, okAs, litOk] at this
        exact this.2.1
    refine ⟨hsize, rfl, rfl, ?_⟩
    exact Lies.impl_Device_lies.calls A0 k0 d.secs A1 k1 _ a _ w C0 C1 hr (by simpa using hl)
end Go.VS

set_option linter.unusedSimpArgs false
set_option linter.unusedVariables false
open Go.Proofs
set_option maxRecDepth 20000
namespace Go.VS
theorem f217_at : gz.P.funcs[217]? = some Tryz.f217 := by
  have h : Tryz.prog.funcs[217]? = some Tryz.f217 := by kernel_rfl
  exact h
theorem f132_at : gz.P.funcs[132]? = some Tryz.f132 := by
  have h : Tryz.prog.funcs[132]? = some Tryz.f132 := by kernel_rfl
  exact h
theorem f140_at : gz.P.funcs[140]? = some Tryz.f140 := by
  have h : Tryz.prog.funcs[140]? = some Tryz.f140 := by kernel_rfl
  exact h
theorem f133_at : gz.P.funcs[133]? = some Tryz.f133 := by
  have h : Tryz.prog.funcs[133]? = some Tryz.f133 := by kernel_rfl
  exact h
theorem f139_at : gz.P.funcs[139]? = some Tryz.f139 := by
  have h : Tryz.prog.funcs[139]? = some Tryz.f139 := by kernel_rfl
  exact h
theorem bsz (s : ByteArray) : s.size = s.data.toList.length := by rw [Array.length_toList]; rfl
theorem bext {s t : ByteArray} (h : s.data.toList = t.data.toList) : s = t := by
  cases s; cases t; simp only [ByteArray.mk.injEq]; exact Array.toList_inj.1 h
theorem ok217 (n : Int) : VCalls gz 217 [.lit (.int .i64 n), .lit (.int .i64 10)] none (fun y _ => y = .lit (.string (itoaB n))) := by
  refine VCalls.go (nt := 8) (keep := [0, 1, 4]) (muts := []) (mvs := []) [] f217_at rfl (by kernel_rfl) rfl (by kernel_rfl) rfl (fun i h => by cases h) rfl ?_
  intro hok
  simp only [go_sem, Nat.reduceAdd, Nat.reduceSub, Nat.reduceMul, Nat.reduceEqDiff, Nat.reduceBEq, Nat.reduceBNe, Nat.reduceLT, Nat.reduceLeDiff, Int.reduceNeg, Int.reduceAdd, Int.reduceSub, Int.reduceMul, Int.reduceEq, Int.reduceLT, Int.reduceLE, Int.reduceToNat, reduceIte, reduceCtorEq] at hok
  simp only [Tryz.f217, Func.code, Option.getD_some]
  simp only [go_sem, Nat.reduceAdd, Nat.reduceSub, Nat.reduceMul, Nat.reduceEqDiff, Nat.reduceBEq, Nat.reduceBNe, Nat.reduceLT, Nat.reduceLeDiff, Int.reduceNeg, Int.reduceAdd, Int.reduceSub, Int.reduceMul, Int.reduceEq, Int.reduceLT, Int.reduceLE, Int.reduceToNat, reduceIte, reduceCtorEq]
  refine call_lend ?_
  simp only [go_sem, Nat.reduceAdd, Nat.reduceSub, Nat.reduceMul, Nat.reduceEqDiff, Nat.reduceBEq, Nat.reduceBNe, Nat.reduceLT, Nat.reduceLeDiff, Int.reduceNeg, Int.reduceAdd, Int.reduceSub, Int.reduceMul, Int.reduceEq, Int.reduceLT, Int.reduceLE, Int.reduceToNat, reduceIte, reduceCtorEq]
  refine callN.eq (ok254 n) (by simp only [go_sem, Nat.reduceAdd, Nat.reduceSub, Nat.reduceMul, Nat.reduceEqDiff, Nat.reduceBEq, Nat.reduceBNe, Nat.reduceLT, Nat.reduceLeDiff, Int.reduceNeg, Int.reduceAdd, Int.reduceSub, Int.reduceMul, Int.reduceEq, Int.reduceLT, Int.reduceLE, Int.reduceToNat, reduceIte, reduceCtorEq]) ?_
  simp only [go_sem, Nat.reduceAdd, Nat.reduceSub, Nat.reduceMul, Nat.reduceEqDiff, Nat.reduceBEq, Nat.reduceBNe, Nat.reduceLT, Nat.reduceLeDiff, Int.reduceNeg, Int.reduceAdd, Int.reduceSub, Int.reduceMul, Int.reduceEq, Int.reduceLT, Int.reduceLE, Int.reduceToNat, reduceIte, reduceCtorEq]
theorem ok132 (n : Int) : VCalls gz 132 [.lit (.int .i64 n)] none (fun y _ => y = .lit (.string (itoaB n))) := by
  refine VCalls.go (nt := 5) (keep := [0, 2]) (muts := []) (mvs := []) [] f132_at rfl (by kernel_rfl) rfl (by kernel_rfl) rfl (fun i h => by cases h) rfl ?_
  intro hok
  simp only [go_sem, Nat.reduceAdd, Nat.reduceSub, Nat.reduceMul, Nat.reduceEqDiff, Nat.reduceBEq, Nat.reduceBNe, Nat.reduceLT, Nat.reduceLeDiff, Int.reduceNeg, Int.reduceAdd, Int.reduceSub, Int.reduceMul, Int.reduceEq, Int.reduceLT, Int.reduceLE, Int.reduceToNat, reduceIte, reduceCtorEq] at hok
  simp only [Tryz.f132, Func.code, Option.getD_some]
  simp only [go_sem, Nat.reduceAdd, Nat.reduceSub, Nat.reduceMul, Nat.reduceEqDiff, Nat.reduceBEq, Nat.reduceBNe, Nat.reduceLT, Nat.reduceLeDiff, Int.reduceNeg, Int.reduceAdd, Int.reduceSub, Int.reduceMul, Int.reduceEq, Int.reduceLT, Int.reduceLE, Int.reduceToNat, reduceIte, reduceCtorEq]
  refine call_lend ?_
  simp only [go_sem, Nat.reduceAdd, Nat.reduceSub, Nat.reduceMul, Nat.reduceEqDiff, Nat.reduceBEq, Nat.reduceBNe, Nat.reduceLT, Nat.reduceLeDiff, Int.reduceNeg, Int.reduceAdd, Int.reduceSub, Int.reduceMul, Int.reduceEq, Int.reduceLT, Int.reduceLE, Int.reduceToNat, reduceIte, reduceCtorEq]
  refine callN.eq (ok217 n) (by simp only [go_sem, Nat.reduceAdd, Nat.reduceSub, Nat.reduceMul, Nat.reduceEqDiff, Nat.reduceBEq, Nat.reduceBNe, Nat.reduceLT, Nat.reduceLeDiff, Int.reduceNeg, Int.reduceAdd, Int.reduceSub, Int.reduceMul, Int.reduceEq, Int.reduceLT, Int.reduceLE, Int.reduceToNat, reduceIte, reduceCtorEq]) ?_
  simp only [go_sem, Nat.reduceAdd, Nat.reduceSub, Nat.reduceMul, Nat.reduceEqDiff, Nat.reduceBEq, Nat.reduceBNe, Nat.reduceLT, Nat.reduceLeDiff, Int.reduceNeg, Int.reduceAdd, Int.reduceSub, Int.reduceMul, Int.reduceEq, Int.reduceLT, Int.reduceLE, Int.reduceToNat, reduceIte, reduceCtorEq]
/-- the number of a text, up to a place -/
def digN (s : ByteArray) : Nat → Int
  | 0 => 1
  | n + 1 => (digN s n * 1000003 + ((s.data.toList.getD n 0).toNat : Int) + 1).tmod 2147483647
theorem digN_rng (s : ByteArray) : ∀ n, 0 ≤ digN s n ∧ digN s n < 2147483647
  | 0 => by simp [digN]
  | n + 1 => by
    have h := digN_rng s n
    have h2 : 0 ≤ digN s n * 1000003 + ((s.data.toList.getD n 0).toNat : Int) + 1 := by omega
    unfold digN
    rw [Int.tmod_eq_emod_of_nonneg h2]
    omega
def dig (s : ByteArray) : Int := digN s s.size
theorem u8_lt (c : UInt8) : c.toNat < 256 := c.toNat_lt
theorem ok140 (s : ByteArray) : VCalls gz 140 [.lit (.string s)] none (fun y _ => y = .lit (.int .i64 (dig s))) := by
  refine VCalls.go (nt := 21) (keep := [0, 2, 3, 4, 8]) (muts := []) (mvs := []) [] f140_at rfl (by kernel_rfl) rfl (by kernel_rfl) rfl (fun i h => by cases h) rfl ?_
  intro hok
  simp only [go_sem, Nat.reduceAdd, Nat.reduceSub, Nat.reduceMul, Nat.reduceEqDiff, Nat.reduceBEq, Nat.reduceBNe, Nat.reduceLT, Nat.reduceLeDiff, Int.reduceNeg, Int.reduceAdd, Int.reduceSub, Int.reduceMul, Int.reduceEq, Int.reduceLT, Int.reduceLE, Int.reduceToNat, reduceIte, reduceCtorEq] at hok
  simp only [Tryz.f140, Func.code, Option.getD_some]
  simp only [go_sem, Nat.reduceAdd, Nat.reduceSub, Nat.reduceMul, Nat.reduceEqDiff, Nat.reduceBEq, Nat.reduceBNe, Nat.reduceLT, Nat.reduceLeDiff, Int.reduceNeg, Int.reduceAdd, Int.reduceSub, Int.reduceMul, Int.reduceEq, Int.reduceLT, Int.reduceLE, Int.reduceToNat, reduceIte, reduceCtorEq]
  refine vm_loopK (α := Nat) (fun i => [(0, .lit (.string s)), (3, .lit (.int .i64 (digN s i))), (4, .lit (.int .i64 i))]) (fun i => i ≤ s.size) (fun i => s.size - i) 0 ?_ (by simp) (by kernel_rfl) (fun _ => rfl) ?_
  · simp only [go_sem, Nat.reduceAdd, Nat.reduceSub, Nat.reduceMul, Nat.reduceEqDiff, Nat.reduceBEq, Nat.reduceBNe, Nat.reduceLT, Nat.reduceLeDiff, Int.reduceNeg, Int.reduceAdd, Int.reduceSub, Int.reduceMul, Int.reduceEq, Int.reduceLT, Int.reduceLE, Int.reduceToNat, reduceIte, reduceCtorEq]
    exact ⟨rfl, rfl⟩
  · intro i hi hk
    simp only [go_sem, Nat.reduceAdd, Nat.reduceSub, Nat.reduceMul, Nat.reduceEqDiff, Nat.reduceBEq, Nat.reduceBNe, Nat.reduceLT, Nat.reduceLeDiff, Int.reduceNeg, Int.reduceAdd, Int.reduceSub, Int.reduceMul, Int.reduceEq, Int.reduceLT, Int.reduceLE, Int.reduceToNat, reduceIte, reduceCtorEq]
    intro hm
    first | refine branch_ndec (fun h => ?_) (fun h => ?_) | refine branch_dec (fun h => ?_) (fun h => ?_) | refine branch_nbool (fun h => ?_) (fun h => ?_) | refine branch_split (fun h => ?_) (fun h => ?_)
    · have hlt : i < s.size := by omega
      have h0 : (0 : Int) ≤ (i : Int) := by omega
      have hd := digN_rng s i
      have hc := u8_lt (s.data.toList.getD i 0)
      simp only [go_sem, Nat.reduceAdd, Nat.reduceSub, Nat.reduceMul, Nat.reduceEqDiff, Nat.reduceBEq, Nat.reduceBNe, Nat.reduceLT, Nat.reduceLeDiff, Int.reduceNeg, Int.reduceAdd, Int.reduceSub, Int.reduceMul, Int.reduceEq, Int.reduceLT, Int.reduceLE, Int.reduceToNat, reduceIte, reduceCtorEq, h0, h, hlt]
      simp (disch := omega) only [wrap64, wrapU64, wrapU32, wrapU8]
      refine again_intro (i + 1) (by omega) (by omega) ?_
      simp only [go_sem, Nat.reduceAdd, Nat.reduceSub, Nat.reduceMul, Nat.reduceEqDiff, Nat.reduceBEq, Nat.reduceBNe, Nat.reduceLT, Nat.reduceLeDiff, Int.reduceNeg, Int.reduceAdd, Int.reduceSub, Int.reduceMul, Int.reduceEq, Int.reduceLT, Int.reduceLE, Int.reduceToNat, reduceIte, reduceCtorEq]
      refine ⟨by simp only [digN], by omega⟩
    · simp only [go_sem, Nat.reduceAdd, Nat.reduceSub, Nat.reduceMul, Nat.reduceEqDiff, Nat.reduceBEq, Nat.reduceBNe, Nat.reduceLT, Nat.reduceLeDiff, Int.reduceNeg, Int.reduceAdd, Int.reduceSub, Int.reduceMul, Int.reduceEq, Int.reduceLT, Int.reduceLE, Int.reduceToNat, reduceIte, reduceCtorEq]
      have : i = s.size := by omega
      subst this
      rfl
theorem ok133 (s : ByteArray) : VCalls gz 133 [.lit (.string s)] none (fun y _ => y = .lit (.int .i64 (dig s))) := by
  refine VCalls.go (nt := 21) (keep := [0, 2, 3, 4, 6, 7, 8]) (muts := []) (mvs := []) [] f133_at rfl (by kernel_rfl) rfl (by kernel_rfl) rfl (fun i h => by cases h) rfl ?_
  intro hok
  simp only [go_sem, Nat.reduceAdd, Nat.reduceSub, Nat.reduceMul, Nat.reduceEqDiff, Nat.reduceBEq, Nat.reduceBNe, Nat.reduceLT, Nat.reduceLeDiff, Int.reduceNeg, Int.reduceAdd, Int.reduceSub, Int.reduceMul, Int.reduceEq, Int.reduceLT, Int.reduceLE, Int.reduceToNat, reduceIte, reduceCtorEq] at hok
  simp only [Tryz.f133, Func.code, Option.getD_some]
  simp only [go_sem, Nat.reduceAdd, Nat.reduceSub, Nat.reduceMul, Nat.reduceEqDiff, Nat.reduceBEq, Nat.reduceBNe, Nat.reduceLT, Nat.reduceLeDiff, Int.reduceNeg, Int.reduceAdd, Int.reduceSub, Int.reduceMul, Int.reduceEq, Int.reduceLT, Int.reduceLE, Int.reduceToNat, reduceIte, reduceCtorEq]
  intro hl
  refine vm_loopK (α := Nat) (fun i => [(0, .lit (.string s)), (3, .lit (.int .i64 (digN s i))), (6, .lit (.int .i64 s.size)), (7, .lit (.int .i64 i))]) (fun i => i ≤ s.size) (fun i => s.size - i) 0 ?_ (by simp) (by kernel_rfl) (fun _ => rfl) ?_
  · simp only [go_sem, Nat.reduceAdd, Nat.reduceSub, Nat.reduceMul, Nat.reduceEqDiff, Nat.reduceBEq, Nat.reduceBNe, Nat.reduceLT, Nat.reduceLeDiff, Int.reduceNeg, Int.reduceAdd, Int.reduceSub, Int.reduceMul, Int.reduceEq, Int.reduceLT, Int.reduceLE, Int.reduceToNat, reduceIte, reduceCtorEq]
    exact ⟨rfl, rfl⟩
  · intro i hi hk
    simp only [go_sem, Nat.reduceAdd, Nat.reduceSub, Nat.reduceMul, Nat.reduceEqDiff, Nat.reduceBEq, Nat.reduceBNe, Nat.reduceLT, Nat.reduceLeDiff, Int.reduceNeg, Int.reduceAdd, Int.reduceSub, Int.reduceMul, Int.reduceEq, Int.reduceLT, Int.reduceLE, Int.reduceToNat, reduceIte, reduceCtorEq]
    first | refine branch_ndec (fun h => ?_) (fun h => ?_) | refine branch_dec (fun h => ?_) (fun h => ?_) | refine branch_nbool (fun h => ?_) (fun h => ?_) | refine branch_split (fun h => ?_) (fun h => ?_)
    · have hlt : i < s.size := by omega
      have h0 : (0 : Int) ≤ (i : Int) := by omega
      have hd := digN_rng s i
      have hc := u8_lt (s.data.toList.getD i 0)
      simp only [go_sem, Nat.reduceAdd, Nat.reduceSub, Nat.reduceMul, Nat.reduceEqDiff, Nat.reduceBEq, Nat.reduceBNe, Nat.reduceLT, Nat.reduceLeDiff, Int.reduceNeg, Int.reduceAdd, Int.reduceSub, Int.reduceMul, Int.reduceEq, Int.reduceLT, Int.reduceLE, Int.reduceToNat, reduceIte, reduceCtorEq, h0, h, hlt]
      simp (disch := omega) only [wrap64, wrapU64, wrapU32, wrapU8]
      refine again_intro (i + 1) (by omega) (by omega) ?_
      simp only [go_sem, Nat.reduceAdd, Nat.reduceSub, Nat.reduceMul, Nat.reduceEqDiff, Nat.reduceBEq, Nat.reduceBNe, Nat.reduceLT, Nat.reduceLeDiff, Int.reduceNeg, Int.reduceAdd, Int.reduceSub, Int.reduceMul, Int.reduceEq, Int.reduceLT, Int.reduceLE, Int.reduceToNat, reduceIte, reduceCtorEq]
      refine ⟨by simp only [digN], by omega⟩
    · simp only [go_sem, Nat.reduceAdd, Nat.reduceSub, Nat.reduceMul, Nat.reduceEqDiff, Nat.reduceBEq, Nat.reduceBNe, Nat.reduceLT, Nat.reduceLeDiff, Int.reduceNeg, Int.reduceAdd, Int.reduceSub, Int.reduceMul, Int.reduceEq, Int.reduceLT, Int.reduceLE, Int.reduceToNat, reduceIte, reduceCtorEq]
      have : i = s.size := by omega
      subst this
      rfl
end Go.VS

set_option linter.unusedSimpArgs false
set_option linter.unusedVariables false
open Go.Proofs
set_option maxRecDepth 20000
namespace Go.VS
/-- where writing out a number stands: what is left of it, and its last digits -/
def WInv (n m : Int) (s : ByteArray) : Prop := (0 ≤ n → 0 ≤ m) ∧ (n < 0 → m ≤ 0) ∧ m.natAbs ≤ n.natAbs ∧ ((s = ByteArray.empty ∧ m = n) ∨ (s.size ≠ 0 ∧ Lib.decDigits n.natAbs = (if m = 0 then [] else Lib.decDigits m.natAbs) ++ s.data.toList))
theorem decDigits_step (u : Nat) : Lib.decDigits u = (if u / 10 = 0 then [] else Lib.decDigits (u / 10)) ++ [UInt8.ofNat (48 + u % 10)] := by
  rw [Lib.decDigits]
  split
  · rw [if_pos (by omega), Nat.mod_eq_of_lt (by omega)]; rfl
  · rw [if_neg (by omega)]
theorem WInv.step {n m : Int} {s t : ByteArray} (h : WInv n m s) (hm : s = ByteArray.empty ∨ m ≠ 0) (d : UInt8) (hd : d = UInt8.ofNat (48 + m.natAbs % 10)) (ht : t.data.toList = d :: s.data.toList) : WInv n (m.tdiv 10) t := by
  obtain ⟨h1, h2, h3, h4⟩ := h
  have e1 : (m.tdiv 10).natAbs = m.natAbs / 10 := by rw [Int.natAbs_tdiv]; rfl
  refine ⟨fun h => ?_, fun h => ?_, by omega, .inr ⟨?_, ?_⟩⟩
  · exact Int.tdiv_nonneg (h1 h) (by omega)
  · have := h2 h
    have h5 : 0 ≤ (-m).tdiv 10 := Int.tdiv_nonneg (by omega) (by omega)
    rw [Int.neg_tdiv] at h5
    omega
  · have : t.data.toList.length ≠ 0 := by rw [ht]; simp
    rw [bsz]; exact this
  · have e2 : (m.tdiv 10 = 0) ↔ m.natAbs / 10 = 0 := by omega
    have key : Lib.decDigits n.natAbs = Lib.decDigits m.natAbs ++ s.data.toList := by
      rcases h4 with ⟨rfl, rfl⟩ | ⟨h5, h6⟩
      · simp
      · rcases hm with rfl | hm
        · exact absurd rfl h5
        · rw [if_neg hm] at h6; exact h6
    rw [key, decDigits_step, e1, ht, hd, ite_congr (propext e2) (fun _ => rfl) (fun _ => rfl)]
    simp
theorem WInv.size {n m : Int} {s : ByteArray} (h : WInv n m s) (hn : -9223372036854775808 ≤ n ∧ n ≤ 9223372036854775807) : s.size ≤ 20 := by
  obtain ⟨h1, h2, h3, h4⟩ := h
  rcases h4 with ⟨rfl, rfl⟩ | ⟨_, h6⟩
  · simp
  · have h7 := congrArg List.length h6
    rw [Lib.decDigits_length, List.length_append] at h7
    have := Lib.nDigits_le20 n.natAbs (by omega)
    have := bsz s
    omega
theorem WInv.done {n : Int} {s : ByteArray} (h : WInv n 0 s) (hs : s ≠ ByteArray.empty) : Lib.decDigits n.natAbs = s.data.toList := by
  obtain ⟨h1, h2, h3, h4⟩ := h
  rcases h4 with ⟨rfl, rfl⟩ | ⟨_, h6⟩
  · exact absurd rfl hs
  · simpa using h6
theorem strOfA_one {n : Int} : strOfA [.lit (.int .u8 n)] = some [UInt8.ofNat n.toNat] := nr rfl
attribute [go_sem] strOfA_one
theorem digit_byte {m k : Int} (hk : k = if m.tmod 10 < 0 then IntKind.i64.wrap (0 - m.tmod 10) else m.tmod 10) : UInt8.ofNat (IntKind.u8.wrap (IntKind.i64.wrap (48 + k))).toNat = UInt8.ofNat (48 + m.natAbs % 10) := by
  have h1 : k = ((m.natAbs % 10 : Nat) : Int) := by
    have h2 : (m.tmod 10).natAbs = m.natAbs % 10 := by rw [Int.natAbs_tmod]; rfl
    rw [hk]
    split
    · rw [wrap64 (by omega) (by omega)]; omega
    · omega
  rw [h1]
  simp (disch := omega) only [wrap64, wrapU64, wrapU32, wrapU8]
  congr 1
theorem str_cons (b : UInt8) (s : ByteArray) : ((⟨[b].toArray⟩ : ByteArray) ++ s).data.toList = b :: s.data.toList := by
  rw [ByteArray.data_append, Array.toList_append]; rfl
theorem ok139 (n : Int) : VCalls gz 139 [.lit (.int .i64 n)] none (fun y _ => y = .lit (.string (itoaB n))) := by
  refine VCalls.go (nt := 33) (keep := [0, 2, 3, 4, 5, 13, 17, 29]) (muts := []) (mvs := []) [] f139_at rfl (by kernel_rfl) rfl (by kernel_rfl) rfl (fun i h => by cases h) rfl ?_
  intro hok
  simp only [go_sem, Nat.reduceAdd, Nat.reduceSub, Nat.reduceMul, Nat.reduceEqDiff, Nat.reduceBEq, Nat.reduceBNe, Nat.reduceLT, Nat.reduceLeDiff, Int.reduceNeg, Int.reduceAdd, Int.reduceSub, Int.reduceMul, Int.reduceEq, Int.reduceLT, Int.reduceLE, Int.reduceToNat, reduceIte, reduceCtorEq] at hok
  simp only [Tryz.f139, Func.code, Option.getD_some]
  simp only [go_sem, Nat.reduceAdd, Nat.reduceSub, Nat.reduceMul, Nat.reduceEqDiff, Nat.reduceBEq, Nat.reduceBNe, Nat.reduceLT, Nat.reduceLeDiff, Int.reduceNeg, Int.reduceAdd, Int.reduceSub, Int.reduceMul, Int.reduceEq, Int.reduceLT, Int.reduceLE, Int.reduceToNat, reduceIte, reduceCtorEq]
  refine vm_loopK (α := Int × ByteArray) (fun q => [(0, .lit (.int .i64 q.1)), (3, .lit (.string q.2)), (4, .lit (.bool (decide (n < 0))))]) (fun q => WInv n q.1 q.2) (fun q => if q.2 = ByteArray.empty then n.natAbs + 1 else q.1.natAbs) (n, ByteArray.empty) ?_ ⟨fun h => h, fun h => by omega, Nat.le_refl _, .inl ⟨rfl, rfl⟩⟩ (by kernel_rfl) (fun _ => rfl) ?_
  · simp only [go_sem, Nat.reduceAdd, Nat.reduceSub, Nat.reduceMul, Nat.reduceEqDiff, Nat.reduceBEq, Nat.reduceBNe, Nat.reduceLT, Nat.reduceLeDiff, Int.reduceNeg, Int.reduceAdd, Int.reduceSub, Int.reduceMul, Int.reduceEq, Int.reduceLT, Int.reduceLE, Int.reduceToNat, reduceIte, reduceCtorEq]
    trivial
  · rintro ⟨m, s⟩ hi hk
    simp only at hi
    simp only [go_sem, Nat.reduceAdd, Nat.reduceSub, Nat.reduceMul, Nat.reduceEqDiff, Nat.reduceBEq, Nat.reduceBNe, Nat.reduceLT, Nat.reduceLeDiff, Int.reduceNeg, Int.reduceAdd, Int.reduceSub, Int.reduceMul, Int.reduceEq, Int.reduceLT, Int.reduceLE, Int.reduceToNat, reduceIte, reduceCtorEq]
    have hs := WInv.size hi hok
    have hm1 := hi.2.2.1
    have ht : (m.tdiv 10).natAbs = m.natAbs / 10 := by rw [Int.natAbs_tdiv]; rfl
    have hz : (⟨[UInt8.ofNat (48 + m.natAbs % 10)].toArray⟩ : ByteArray).size = 1 := rfl
    have hcm : s = ByteArray.empty ∨ m ≠ 0 → WInv n (m.tdiv 10) ((⟨[UInt8.ofNat (48 + m.natAbs % 10)].toArray⟩ : ByteArray) ++ s) := fun h => hi.step h _ rfl (str_cons _ _)
    have hne : ((⟨[UInt8.ofNat (48 + m.natAbs % 10)].toArray⟩ : ByteArray) ++ s) ≠ ByteArray.empty := fun h => by
      have := congrArg ByteArray.size h
      rw [ByteArray.size_append, hz] at this
      simp at this
    have hdone : ¬ s = ByteArray.empty → m = 0 → (if decide (n < 0) = true then ⟨[45].toArray⟩ ++ s else s) = itoaB n := fun h1 h2 => by
      subst h2
      have := hi.done h1
      apply bext
      unfold itoaB Lib.itoa
      by_cases hn : n < 0
      · simp only [hn, decide_true, if_true]
        rw [str_cons]
        simp only [this]
      · simp only [hn, decide_false, if_false]
        have e : n.toNat = n.natAbs := by omega
        simp only [e, this]
        rfl
    first | refine gj_ndec (fun h => ?_) (fun h => ?_) | refine gj_dec (fun h => ?_) (fun h => ?_) | refine gj_nbool (fun h => ?_) (fun h => ?_) | refine gj_bool (fun h => ?_) (fun h => ?_)
    · simp only [go_sem, Nat.reduceAdd, Nat.reduceSub, Nat.reduceMul, Nat.reduceEqDiff, Nat.reduceBEq, Nat.reduceBNe, Nat.reduceLT, Nat.reduceLeDiff, Int.reduceNeg, Int.reduceAdd, Int.reduceSub, Int.reduceMul, Int.reduceEq, Int.reduceLT, Int.reduceLE, Int.reduceToNat, reduceIte, reduceCtorEq, eq_true h]
      have hmu : (if (⟨[UInt8.ofNat (48 + m.natAbs % 10)].toArray⟩ : ByteArray) ++ s = ByteArray.empty then n.natAbs + 1 else (m.tdiv 10).natAbs) < (if s = ByteArray.empty then n.natAbs + 1 else m.natAbs) := by
        rw [if_neg hne, if_pos (show s = ByteArray.empty from h)]
        have := hi.2.2.1
        omega
      first | refine branch_ndec (fun h1 => ?_) (fun h1 => ?_) | refine branch_dec (fun h1 => ?_) (fun h1 => ?_) | refine branch_nbool (fun h1 => ?_) (fun h1 => ?_) | refine branch_split (fun h1 => ?_) (fun h1 => ?_)
      · simp only [go_sem, Nat.reduceAdd, Nat.reduceSub, Nat.reduceMul, Nat.reduceEqDiff, Nat.reduceBEq, Nat.reduceBNe, Nat.reduceLT, Nat.reduceLeDiff, Int.reduceNeg, Int.reduceAdd, Int.reduceSub, Int.reduceMul, Int.reduceEq, Int.reduceLT, Int.reduceLE, Int.reduceToNat, reduceIte, reduceCtorEq]
        have hb := digit_byte (m := m) (k := IntKind.i64.wrap (0 - m.tmod 10)) (by simp only [h1, if_true, if_false])
        have hw : IntKind.i64.wrap (m.tdiv 10) = m.tdiv 10 := wrap64 (by omega) (by omega)
        rw [hw, hb]
        have h0 := hcm (.inl h)
        refine ⟨by have : s.size ≤ 20 := hs
                   show 1 + s.size ≤ 9223372036854775807
                   omega, again_intro (m.tdiv 10, (⟨[UInt8.ofNat (48 + m.natAbs % 10)].toArray⟩ : ByteArray) ++ s) h0 hmu ?_⟩
        simp only [go_sem, Nat.reduceAdd, Nat.reduceSub, Nat.reduceMul, Nat.reduceEqDiff, Nat.reduceBEq, Nat.reduceBNe, Nat.reduceLT, Nat.reduceLeDiff, Int.reduceNeg, Int.reduceAdd, Int.reduceSub, Int.reduceMul, Int.reduceEq, Int.reduceLT, Int.reduceLE, Int.reduceToNat, reduceIte, reduceCtorEq]
      · simp only [go_sem, Nat.reduceAdd, Nat.reduceSub, Nat.reduceMul, Nat.reduceEqDiff, Nat.reduceBEq, Nat.reduceBNe, Nat.reduceLT, Nat.reduceLeDiff, Int.reduceNeg, Int.reduceAdd, Int.reduceSub, Int.reduceMul, Int.reduceEq, Int.reduceLT, Int.reduceLE, Int.reduceToNat, reduceIte, reduceCtorEq]
        have hb := digit_byte (m := m) (k := m.tmod 10) (by simp only [h1, if_true, if_false])
        have hw : IntKind.i64.wrap (m.tdiv 10) = m.tdiv 10 := wrap64 (by omega) (by omega)
        rw [hw, hb]
        have h0 := hcm (.inl h)
        refine ⟨by have : s.size ≤ 20 := hs
                   show 1 + s.size ≤ 9223372036854775807
                   omega, again_intro (m.tdiv 10, (⟨[UInt8.ofNat (48 + m.natAbs % 10)].toArray⟩ : ByteArray) ++ s) h0 hmu ?_⟩
        simp only [go_sem, Nat.reduceAdd, Nat.reduceSub, Nat.reduceMul, Nat.reduceEqDiff, Nat.reduceBEq, Nat.reduceBNe, Nat.reduceLT, Nat.reduceLeDiff, Int.reduceNeg, Int.reduceAdd, Int.reduceSub, Int.reduceMul, Int.reduceEq, Int.reduceLT, Int.reduceLE, Int.reduceToNat, reduceIte, reduceCtorEq]
    · simp only [go_sem, Nat.reduceAdd, Nat.reduceSub, Nat.reduceMul, Nat.reduceEqDiff, Nat.reduceBEq, Nat.reduceBNe, Nat.reduceLT, Nat.reduceLeDiff, Int.reduceNeg, Int.reduceAdd, Int.reduceSub, Int.reduceMul, Int.reduceEq, Int.reduceLT, Int.reduceLE, Int.reduceToNat, reduceIte, reduceCtorEq, h]
      first | refine branch_ndec (fun h2 => ?_) (fun h2 => ?_) | refine branch_dec (fun h2 => ?_) (fun h2 => ?_) | refine branch_nbool (fun h2 => ?_) (fun h2 => ?_) | refine branch_split (fun h2 => ?_) (fun h2 => ?_)
      · simp only [go_sem, Nat.reduceAdd, Nat.reduceSub, Nat.reduceMul, Nat.reduceEqDiff, Nat.reduceBEq, Nat.reduceBNe, Nat.reduceLT, Nat.reduceLeDiff, Int.reduceNeg, Int.reduceAdd, Int.reduceSub, Int.reduceMul, Int.reduceEq, Int.reduceLT, Int.reduceLE, Int.reduceToNat, reduceIte, reduceCtorEq]
        have hf := hdone h h2
        first | refine branch_ndec (fun h3 => ?_) (fun h3 => ?_) | refine branch_dec (fun h3 => ?_) (fun h3 => ?_) | refine branch_nbool (fun h3 => ?_) (fun h3 => ?_) | refine branch_split (fun h3 => ?_) (fun h3 => ?_)
        · simp only [go_sem, Nat.reduceAdd, Nat.reduceSub, Nat.reduceMul, Nat.reduceEqDiff, Nat.reduceBEq, Nat.reduceBNe, Nat.reduceLT, Nat.reduceLeDiff, Int.reduceNeg, Int.reduceAdd, Int.reduceSub, Int.reduceMul, Int.reduceEq, Int.reduceLT, Int.reduceLE, Int.reduceToNat, reduceIte, reduceCtorEq]
          rw [if_pos (by simpa using h3)] at hf
          exact ⟨by show 1 + s.size ≤ 9223372036854775807
                    omega, hf⟩
        · simp only [go_sem, Nat.reduceAdd, Nat.reduceSub, Nat.reduceMul, Nat.reduceEqDiff, Nat.reduceBEq, Nat.reduceBNe, Nat.reduceLT, Nat.reduceLeDiff, Int.reduceNeg, Int.reduceAdd, Int.reduceSub, Int.reduceMul, Int.reduceEq, Int.reduceLT, Int.reduceLE, Int.reduceToNat, reduceIte, reduceCtorEq]
          rw [if_neg (by simpa using h3)] at hf
          exact hf
      · have hmu : (if (⟨[UInt8.ofNat (48 + m.natAbs % 10)].toArray⟩ : ByteArray) ++ s = ByteArray.empty then n.natAbs + 1 else (m.tdiv 10).natAbs) < (if s = ByteArray.empty then n.natAbs + 1 else m.natAbs) := by
          rw [if_neg hne, if_neg (show ¬ s = ByteArray.empty from h)]
          omega
        simp only [go_sem, Nat.reduceAdd, Nat.reduceSub, Nat.reduceMul, Nat.reduceEqDiff, Nat.reduceBEq, Nat.reduceBNe, Nat.reduceLT, Nat.reduceLeDiff, Int.reduceNeg, Int.reduceAdd, Int.reduceSub, Int.reduceMul, Int.reduceEq, Int.reduceLT, Int.reduceLE, Int.reduceToNat, reduceIte, reduceCtorEq]
        first | refine branch_ndec (fun h1 => ?_) (fun h1 => ?_) | refine branch_dec (fun h1 => ?_) (fun h1 => ?_) | refine branch_nbool (fun h1 => ?_) (fun h1 => ?_) | refine branch_split (fun h1 => ?_) (fun h1 => ?_)
        · simp only [go_sem, Nat.reduceAdd, Nat.reduceSub, Nat.reduceMul, Nat.reduceEqDiff, Nat.reduceBEq, Nat.reduceBNe, Nat.reduceLT, Nat.reduceLeDiff, Int.reduceNeg, Int.reduceAdd, Int.reduceSub, Int.reduceMul, Int.reduceEq, Int.reduceLT, Int.reduceLE, Int.reduceToNat, reduceIte, reduceCtorEq]
          have hb := digit_byte (m := m) (k := IntKind.i64.wrap (0 - m.tmod 10)) (by simp only [h1, if_true, if_false])
          have hw : IntKind.i64.wrap (m.tdiv 10) = m.tdiv 10 := wrap64 (by omega) (by omega)
          rw [hw, hb]
          have h0 := hcm (.inr h2)
          refine ⟨by have : s.size ≤ 20 := hs
                     show 1 + s.size ≤ 9223372036854775807
                     omega, again_intro (m.tdiv 10, (⟨[UInt8.ofNat (48 + m.natAbs % 10)].toArray⟩ : ByteArray) ++ s) h0 hmu ?_⟩
          simp only [go_sem, Nat.reduceAdd, Nat.reduceSub, Nat.reduceMul, Nat.reduceEqDiff, Nat.reduceBEq, Nat.reduceBNe, Nat.reduceLT, Nat.reduceLeDiff, Int.reduceNeg, Int.reduceAdd, Int.reduceSub, Int.reduceMul, Int.reduceEq, Int.reduceLT, Int.reduceLE, Int.reduceToNat, reduceIte, reduceCtorEq]
        · simp only [go_sem, Nat.reduceAdd, Nat.reduceSub, Nat.reduceMul, Nat.reduceEqDiff, Nat.reduceBEq, Nat.reduceBNe, Nat.reduceLT, Nat.reduceLeDiff, Int.reduceNeg, Int.reduceAdd, Int.reduceSub, Int.reduceMul, Int.reduceEq, Int.reduceLT, Int.reduceLE, Int.reduceToNat, reduceIte, reduceCtorEq]
          have hb := digit_byte (m := m) (k := m.tmod 10) (by simp only [h1, if_true, if_false])
          have hw : IntKind.i64.wrap (m.tdiv 10) = m.tdiv 10 := wrap64 (by omega) (by omega)
          rw [hw, hb]
          have h0 := hcm (.inr h2)
          refine ⟨by have : s.size ≤ 20 := hs
                     show 1 + s.size ≤ 9223372036854775807
                     omega, again_intro (m.tdiv 10, (⟨[UInt8.ofNat (48 + m.natAbs % 10)].toArray⟩ : ByteArray) ++ s) h0 hmu ?_⟩
          simp only [go_sem, Nat.reduceAdd, Nat.reduceSub, Nat.reduceMul, Nat.reduceEqDiff, Nat.reduceBEq, Nat.reduceBNe, Nat.reduceLT, Nat.reduceLeDiff, Int.reduceNeg, Int.reduceAdd, Int.reduceSub, Int.reduceMul, Int.reduceEq, Int.reduceLT, Int.reduceLE, Int.reduceToNat, reduceIte, reduceCtorEq]
end Go.VS

set_option linter.unusedSimpArgs false
set_option linter.unusedVariables false
open Go.Proofs
set_option maxRecDepth 20000
namespace Go.VS
theorem f35_at : gz.P.funcs[35]? = some Tryz.f35 := by
  have h : Tryz.prog.funcs[35]? = some Tryz.f35 := by kernel_rfl
  exact h
theorem f30_at : gz.P.funcs[30]? = some Tryz.f30 := by
  have h : Tryz.prog.funcs[30]? = some Tryz.f30 := by kernel_rfl
  exact h
def spB : ByteArray := ⟨#[32]⟩
/-- a slot, written out -/
def slotB (n : Int) (t : ByteArray) : ByteArray := itoaB n ++ ⟨#[32]⟩ ++ itoaB (dig t) ++ ⟨#[32]⟩ ++ t
def slotS (n : Int) (t : ByteArray) : ByteArray := if (1 ≤ n ∧ n ≤ 1000000) ∧ t.size ≤ 300 then slotB n t else ⟨#[]⟩
theorem dig_rng (t : ByteArray) : 0 ≤ dig t ∧ dig t < 2147483647 := digN_rng t _
theorem slotB_parts (n : Int) (t : ByteArray) (h : -9223372036854775808 ≤ n ∧ n ≤ 9223372036854775807) (ht : t.size ≤ 300) : (itoaB n).size + 1 ≤ 22 ∧ (itoaB n ++ ⟨#[32]⟩).size + (itoaB (dig t)).size ≤ 43 ∧ (itoaB n ++ ⟨#[32]⟩ ++ itoaB (dig t)).size + 1 ≤ 44 ∧ (itoaB n ++ ⟨#[32]⟩ ++ itoaB (dig t) ++ ⟨#[32]⟩).size + t.size ≤ 344 := by
  have h1 := itoaB_size n h
  have h2 := itoaB_size (dig t) (by have := dig_rng t; omega)
  have h3 : (⟨#[32]⟩ : ByteArray).size = 1 := rfl
  simp only [ByteArray.size_append, h3]
  omega
theorem slotS_size (n : Int) (t : ByteArray) : (slotS n t).size ≤ 344 := by
  unfold slotS
  split
  · rename_i h
    have := (slotB_parts n t (by omega) h.2).2.2.2
    unfold slotB
    rw [ByteArray.size_append]
    exact this
  · exact Nat.zero_le _
theorem ok35 (n : Int) (t : ByteArray) : VCalls gz 35 [.lit (.int .i64 n), .lit (.string t)] none (fun y _ => y = .lit (.string (slotS n t))) := by
  refine VCalls.go (nt := 23) (keep := [0, 1, 4, 12]) (muts := []) (mvs := []) [] f35_at rfl (by kernel_rfl) rfl (by kernel_rfl) rfl (fun i h => by cases h) rfl ?_
  intro hok
  simp only [go_sem, Nat.reduceAdd, Nat.reduceSub, Nat.reduceMul, Nat.reduceEqDiff, Nat.reduceBEq, Nat.reduceBNe, Nat.reduceLT, Nat.reduceLeDiff, Int.reduceNeg, Int.reduceAdd, Int.reduceSub, Int.reduceMul, Int.reduceEq, Int.reduceLT, Int.reduceLE, Int.reduceToNat, reduceIte, reduceCtorEq] at hok
  simp only [Tryz.f35, Func.code, Option.getD_some]
  simp only [go_sem, Nat.reduceAdd, Nat.reduceSub, Nat.reduceMul, Nat.reduceEqDiff, Nat.reduceBEq, Nat.reduceBNe, Nat.reduceLT, Nat.reduceLeDiff, Int.reduceNeg, Int.reduceAdd, Int.reduceSub, Int.reduceMul, Int.reduceEq, Int.reduceLT, Int.reduceLE, Int.reduceToNat, reduceIte, reduceCtorEq]
  refine call_lend ?_
  simp only [go_sem, Nat.reduceAdd, Nat.reduceSub, Nat.reduceMul, Nat.reduceEqDiff, Nat.reduceBEq, Nat.reduceBNe, Nat.reduceLT, Nat.reduceLeDiff, Int.reduceNeg, Int.reduceAdd, Int.reduceSub, Int.reduceMul, Int.reduceEq, Int.reduceLT, Int.reduceLE, Int.reduceToNat, reduceIte, reduceCtorEq]
  refine callN.eq (ok76 n 1 1000000) (by simp only [go_sem, Nat.reduceAdd, Nat.reduceSub, Nat.reduceMul, Nat.reduceEqDiff, Nat.reduceBEq, Nat.reduceBNe, Nat.reduceLT, Nat.reduceLeDiff, Int.reduceNeg, Int.reduceAdd, Int.reduceSub, Int.reduceMul, Int.reduceEq, Int.reduceLT, Int.reduceLE, Int.reduceToNat, reduceIte, reduceCtorEq]) ?_
  simp only [go_sem, Nat.reduceAdd, Nat.reduceSub, Nat.reduceMul, Nat.reduceEqDiff, Nat.reduceBEq, Nat.reduceBNe, Nat.reduceLT, Nat.reduceLeDiff, Int.reduceNeg, Int.reduceAdd, Int.reduceSub, Int.reduceMul, Int.reduceEq, Int.reduceLT, Int.reduceLE, Int.reduceToNat, reduceIte, reduceCtorEq]
  by_cases h1 : 1 ≤ n ∧ n ≤ 1000000
  · have e1 : decide (¬ (1 ≤ n ∧ n ≤ 1000000)) = false := decide_eq_false (fun h => h h1)
    simp only [go_sem, Nat.reduceAdd, Nat.reduceSub, Nat.reduceMul, Nat.reduceEqDiff, Nat.reduceBEq, Nat.reduceBNe, Nat.reduceLT, Nat.reduceLeDiff, Int.reduceNeg, Int.reduceAdd, Int.reduceSub, Int.reduceMul, Int.reduceEq, Int.reduceLT, Int.reduceLE, Int.reduceToNat, reduceIte, reduceCtorEq, e1]
    intro h5
    first | refine branch_ndec (fun h2 => ?_) (fun h2 => ?_) | refine branch_dec (fun h2 => ?_) (fun h2 => ?_) | refine branch_nbool (fun h2 => ?_) (fun h2 => ?_) | refine branch_split (fun h2 => ?_) (fun h2 => ?_)
    · have e2 : slotS n t = ⟨#[]⟩ := if_neg (by omega)
      simp only [go_sem, Nat.reduceAdd, Nat.reduceSub, Nat.reduceMul, Nat.reduceEqDiff, Nat.reduceBEq, Nat.reduceBNe, Nat.reduceLT, Nat.reduceLeDiff, Int.reduceNeg, Int.reduceAdd, Int.reduceSub, Int.reduceMul, Int.reduceEq, Int.reduceLT, Int.reduceLE, Int.reduceToNat, reduceIte, reduceCtorEq, e2]
    · have e2 : slotS n t = slotB n t := if_pos ⟨h1, by omega⟩
      obtain ⟨p1, p2, p3, p4⟩ := slotB_parts n t hok.1 (by omega)
      rw [e2]
      simp only [go_sem, Nat.reduceAdd, Nat.reduceSub, Nat.reduceMul, Nat.reduceEqDiff, Nat.reduceBEq, Nat.reduceBNe, Nat.reduceLT, Nat.reduceLeDiff, Int.reduceNeg, Int.reduceAdd, Int.reduceSub, Int.reduceMul, Int.reduceEq, Int.reduceLT, Int.reduceLE, Int.reduceToNat, reduceIte, reduceCtorEq]
      refine call_lend ?_
      simp only [go_sem, Nat.reduceAdd, Nat.reduceSub, Nat.reduceMul, Nat.reduceEqDiff, Nat.reduceBEq, Nat.reduceBNe, Nat.reduceLT, Nat.reduceLeDiff, Int.reduceNeg, Int.reduceAdd, Int.reduceSub, Int.reduceMul, Int.reduceEq, Int.reduceLT, Int.reduceLE, Int.reduceToNat, reduceIte, reduceCtorEq]
      refine callN.eq (ok139 n) (by simp only [go_sem, Nat.reduceAdd, Nat.reduceSub, Nat.reduceMul, Nat.reduceEqDiff, Nat.reduceBEq, Nat.reduceBNe, Nat.reduceLT, Nat.reduceLeDiff, Int.reduceNeg, Int.reduceAdd, Int.reduceSub, Int.reduceMul, Int.reduceEq, Int.reduceLT, Int.reduceLE, Int.reduceToNat, reduceIte, reduceCtorEq]) ?_
      simp only [go_sem, Nat.reduceAdd, Nat.reduceSub, Nat.reduceMul, Nat.reduceEqDiff, Nat.reduceBEq, Nat.reduceBNe, Nat.reduceLT, Nat.reduceLeDiff, Int.reduceNeg, Int.reduceAdd, Int.reduceSub, Int.reduceMul, Int.reduceEq, Int.reduceLT, Int.reduceLE, Int.reduceToNat, reduceIte, reduceCtorEq]
      refine ⟨by show (itoaB n).size + 1 ≤ 9223372036854775807
                 omega, ?_⟩
      refine call_lend ?_
      simp only [go_sem, Nat.reduceAdd, Nat.reduceSub, Nat.reduceMul, Nat.reduceEqDiff, Nat.reduceBEq, Nat.reduceBNe, Nat.reduceLT, Nat.reduceLeDiff, Int.reduceNeg, Int.reduceAdd, Int.reduceSub, Int.reduceMul, Int.reduceEq, Int.reduceLT, Int.reduceLE, Int.reduceToNat, reduceIte, reduceCtorEq]
      refine callN.eq (ok140 t) (by simp only [go_sem, Nat.reduceAdd, Nat.reduceSub, Nat.reduceMul, Nat.reduceEqDiff, Nat.reduceBEq, Nat.reduceBNe, Nat.reduceLT, Nat.reduceLeDiff, Int.reduceNeg, Int.reduceAdd, Int.reduceSub, Int.reduceMul, Int.reduceEq, Int.reduceLT, Int.reduceLE, Int.reduceToNat, reduceIte, reduceCtorEq]) ?_
      simp only [go_sem, Nat.reduceAdd, Nat.reduceSub, Nat.reduceMul, Nat.reduceEqDiff, Nat.reduceBEq, Nat.reduceBNe, Nat.reduceLT, Nat.reduceLeDiff, Int.reduceNeg, Int.reduceAdd, Int.reduceSub, Int.reduceMul, Int.reduceEq, Int.reduceLT, Int.reduceLE, Int.reduceToNat, reduceIte, reduceCtorEq]
      refine call_lend ?_
      simp only [go_sem, Nat.reduceAdd, Nat.reduceSub, Nat.reduceMul, Nat.reduceEqDiff, Nat.reduceBEq, Nat.reduceBNe, Nat.reduceLT, Nat.reduceLeDiff, Int.reduceNeg, Int.reduceAdd, Int.reduceSub, Int.reduceMul, Int.reduceEq, Int.reduceLT, Int.reduceLE, Int.reduceToNat, reduceIte, reduceCtorEq]
      refine callN.eq (ok139 (dig t)) (by simp only [go_sem, Nat.reduceAdd, Nat.reduceSub, Nat.reduceMul, Nat.reduceEqDiff, Nat.reduceBEq, Nat.reduceBNe, Nat.reduceLT, Nat.reduceLeDiff, Int.reduceNeg, Int.reduceAdd, Int.reduceSub, Int.reduceMul, Int.reduceEq, Int.reduceLT, Int.reduceLE, Int.reduceToNat, reduceIte, reduceCtorEq]) ?_
      simp only [go_sem, Nat.reduceAdd, Nat.reduceSub, Nat.reduceMul, Nat.reduceEqDiff, Nat.reduceBEq, Nat.reduceBNe, Nat.reduceLT, Nat.reduceLeDiff, Int.reduceNeg, Int.reduceAdd, Int.reduceSub, Int.reduceMul, Int.reduceEq, Int.reduceLT, Int.reduceLE, Int.reduceToNat, reduceIte, reduceCtorEq]
      have i1 := itoaB_size n hok.1
      have i2 := itoaB_size (dig t) (by have := dig_rng t; omega)
      have hz : (#[32] : Array UInt8).size = 1 := rfl
      exact ⟨by omega, by omega, by omega, rfl⟩
  · have e1 : decide (¬ (1 ≤ n ∧ n ≤ 1000000)) = true := decide_eq_true h1
    have e2 : slotS n t = ⟨#[]⟩ := if_neg (fun h => h1 h.1)
    simp only [go_sem, Nat.reduceAdd, Nat.reduceSub, Nat.reduceMul, Nat.reduceEqDiff, Nat.reduceBEq, Nat.reduceBNe, Nat.reduceLT, Nat.reduceLeDiff, Int.reduceNeg, Int.reduceAdd, Int.reduceSub, Int.reduceMul, Int.reduceEq, Int.reduceLT, Int.reduceLE, Int.reduceToNat, reduceIte, reduceCtorEq, e1, e2]
theorem ok30 (n : Int) (t : ByteArray) : VCalls gz 30 [.lit (.int .i64 n), .lit (.string t)] none (fun y _ => y = .lit (.string (slotS n t))) := by
  refine VCalls.go (nt := 23) (keep := [0, 1, 4, 12]) (muts := []) (mvs := []) [] f30_at rfl (by kernel_rfl) rfl (by kernel_rfl) rfl (fun i h => by cases h) rfl ?_
  intro hok
  simp only [go_sem, Nat.reduceAdd, Nat.reduceSub, Nat.reduceMul, Nat.reduceEqDiff, Nat.reduceBEq, Nat.reduceBNe, Nat.reduceLT, Nat.reduceLeDiff, Int.reduceNeg, Int.reduceAdd, Int.reduceSub, Int.reduceMul, Int.reduceEq, Int.reduceLT, Int.reduceLE, Int.reduceToNat, reduceIte, reduceCtorEq] at hok
  simp only [Tryz.f30, Func.code, Option.getD_some]
  simp only [go_sem, Nat.reduceAdd, Nat.reduceSub, Nat.reduceMul, Nat.reduceEqDiff, Nat.reduceBEq, Nat.reduceBNe, Nat.reduceLT, Nat.reduceLeDiff, Int.reduceNeg, Int.reduceAdd, Int.reduceSub, Int.reduceMul, Int.reduceEq, Int.reduceLT, Int.reduceLE, Int.reduceToNat, reduceIte, reduceCtorEq]
  refine call_lend ?_
  simp only [go_sem, Nat.reduceAdd, Nat.reduceSub, Nat.reduceMul, Nat.reduceEqDiff, Nat.reduceBEq, Nat.reduceBNe, Nat.reduceLT, Nat.reduceLeDiff, Int.reduceNeg, Int.reduceAdd, Int.reduceSub, Int.reduceMul, Int.reduceEq, Int.reduceLT, Int.reduceLE, Int.reduceToNat, reduceIte, reduceCtorEq]
  refine callN.eq (ok90 n 1 1000000) (by simp only [go_sem, Nat.reduceAdd, Nat.reduceSub, Nat.reduceMul, Nat.reduceEqDiff, Nat.reduceBEq, Nat.reduceBNe, Nat.reduceLT, Nat.reduceLeDiff, Int.reduceNeg, Int.reduceAdd, Int.reduceSub, Int.reduceMul, Int.reduceEq, Int.reduceLT, Int.reduceLE, Int.reduceToNat, reduceIte, reduceCtorEq]) ?_
  simp only [go_sem, Nat.reduceAdd, Nat.reduceSub, Nat.reduceMul, Nat.reduceEqDiff, Nat.reduceBEq, Nat.reduceBNe, Nat.reduceLT, Nat.reduceLeDiff, Int.reduceNeg, Int.reduceAdd, Int.reduceSub, Int.reduceMul, Int.reduceEq, Int.reduceLT, Int.reduceLE, Int.reduceToNat, reduceIte, reduceCtorEq]
  by_cases h1 : 1 ≤ n ∧ n ≤ 1000000
  · have e1 : decide (¬ (1 ≤ n ∧ n ≤ 1000000)) = false := decide_eq_false (fun h => h h1)
    simp only [go_sem, Nat.reduceAdd, Nat.reduceSub, Nat.reduceMul, Nat.reduceEqDiff, Nat.reduceBEq, Nat.reduceBNe, Nat.reduceLT, Nat.reduceLeDiff, Int.reduceNeg, Int.reduceAdd, Int.reduceSub, Int.reduceMul, Int.reduceEq, Int.reduceLT, Int.reduceLE, Int.reduceToNat, reduceIte, reduceCtorEq, e1]
    intro h5
    first | refine branch_ndec (fun h2 => ?_) (fun h2 => ?_) | refine branch_dec (fun h2 => ?_) (fun h2 => ?_) | refine branch_nbool (fun h2 => ?_) (fun h2 => ?_) | refine branch_split (fun h2 => ?_) (fun h2 => ?_)
    · have e2 : slotS n t = ⟨#[]⟩ := if_neg (by omega)
      simp only [go_sem, Nat.reduceAdd, Nat.reduceSub, Nat.reduceMul, Nat.reduceEqDiff, Nat.reduceBEq, Nat.reduceBNe, Nat.reduceLT, Nat.reduceLeDiff, Int.reduceNeg, Int.reduceAdd, Int.reduceSub, Int.reduceMul, Int.reduceEq, Int.reduceLT, Int.reduceLE, Int.reduceToNat, reduceIte, reduceCtorEq, e2]
    · have e2 : slotS n t = slotB n t := if_pos ⟨h1, by omega⟩
      obtain ⟨p1, p2, p3, p4⟩ := slotB_parts n t hok.1 (by omega)
      rw [e2]
      simp only [go_sem, Nat.reduceAdd, Nat.reduceSub, Nat.reduceMul, Nat.reduceEqDiff, Nat.reduceBEq, Nat.reduceBNe, Nat.reduceLT, Nat.reduceLeDiff, Int.reduceNeg, Int.reduceAdd, Int.reduceSub, Int.reduceMul, Int.reduceEq, Int.reduceLT, Int.reduceLE, Int.reduceToNat, reduceIte, reduceCtorEq]
      refine call_lend ?_
      simp only [go_sem, Nat.reduceAdd, Nat.reduceSub, Nat.reduceMul, Nat.reduceEqDiff, Nat.reduceBEq, Nat.reduceBNe, Nat.reduceLT, Nat.reduceLeDiff, Int.reduceNeg, Int.reduceAdd, Int.reduceSub, Int.reduceMul, Int.reduceEq, Int.reduceLT, Int.reduceLE, Int.reduceToNat, reduceIte, reduceCtorEq]
      refine callN.eq (ok132 n) (by simp only [go_sem, Nat.reduceAdd, Nat.reduceSub, Nat.reduceMul, Nat.reduceEqDiff, Nat.reduceBEq, Nat.reduceBNe, Nat.reduceLT, Nat.reduceLeDiff, Int.reduceNeg, Int.reduceAdd, Int.reduceSub, Int.reduceMul, Int.reduceEq, Int.reduceLT, Int.reduceLE, Int.reduceToNat, reduceIte, reduceCtorEq]) ?_
      simp only [go_sem, Nat.reduceAdd, Nat.reduceSub, Nat.reduceMul, Nat.reduceEqDiff, Nat.reduceBEq, Nat.reduceBNe, Nat.reduceLT, Nat.reduceLeDiff, Int.reduceNeg, Int.reduceAdd, Int.reduceSub, Int.reduceMul, Int.reduceEq, Int.reduceLT, Int.reduceLE, Int.reduceToNat, reduceIte, reduceCtorEq]
      refine ⟨by show (itoaB n).size + 1 ≤ 9223372036854775807
                 omega, ?_⟩
      refine call_lend ?_
      simp only [go_sem, Nat.reduceAdd, Nat.reduceSub, Nat.reduceMul, Nat.reduceEqDiff, Nat.reduceBEq, Nat.reduceBNe, Nat.reduceLT, Nat.reduceLeDiff, Int.reduceNeg, Int.reduceAdd, Int.reduceSub, Int.reduceMul, Int.reduceEq, Int.reduceLT, Int.reduceLE, Int.reduceToNat, reduceIte, reduceCtorEq]
      refine callN.eq (ok133 t) (by simp only [go_sem, Nat.reduceAdd, Nat.reduceSub, Nat.reduceMul, Nat.reduceEqDiff, Nat.reduceBEq, Nat.reduceBNe, Nat.reduceLT, Nat.reduceLeDiff, Int.reduceNeg, Int.reduceAdd, Int.reduceSub, Int.reduceMul, Int.reduceEq, Int.reduceLT, Int.reduceLE, Int.reduceToNat, reduceIte, reduceCtorEq]) ?_
      simp only [go_sem, Nat.reduceAdd, Nat.reduceSub, Nat.reduceMul, Nat.reduceEqDiff, Nat.reduceBEq, Nat.reduceBNe, Nat.reduceLT, Nat.reduceLeDiff, Int.reduceNeg, Int.reduceAdd, Int.reduceSub, Int.reduceMul, Int.reduceEq, Int.reduceLT, Int.reduceLE, Int.reduceToNat, reduceIte, reduceCtorEq]
      refine call_lend ?_
      simp only [go_sem, Nat.reduceAdd, Nat.reduceSub, Nat.reduceMul, Nat.reduceEqDiff, Nat.reduceBEq, Nat.reduceBNe, Nat.reduceLT, Nat.reduceLeDiff, Int.reduceNeg, Int.reduceAdd, Int.reduceSub, Int.reduceMul, Int.reduceEq, Int.reduceLT, Int.reduceLE, Int.reduceToNat, reduceIte, reduceCtorEq]
      refine callN.eq (ok132 (dig t)) (by simp only [go_sem, Nat.reduceAdd, Nat.reduceSub, Nat.reduceMul, Nat.reduceEqDiff, Nat.reduceBEq, Nat.reduceBNe, Nat.reduceLT, Nat.reduceLeDiff, Int.reduceNeg, Int.reduceAdd, Int.reduceSub, Int.reduceMul, Int.reduceEq, Int.reduceLT, Int.reduceLE, Int.reduceToNat, reduceIte, reduceCtorEq]) ?_
      simp only [go_sem, Nat.reduceAdd, Nat.reduceSub, Nat.reduceMul, Nat.reduceEqDiff, Nat.reduceBEq, Nat.reduceBNe, Nat.reduceLT, Nat.reduceLeDiff, Int.reduceNeg, Int.reduceAdd, Int.reduceSub, Int.reduceMul, Int.reduceEq, Int.reduceLT, Int.reduceLE, Int.reduceToNat, reduceIte, reduceCtorEq]
      have i1 := itoaB_size n hok.1
      have i2 := itoaB_size (dig t) (by have := dig_rng t; omega)
      have hz : (#[32] : Array UInt8).size = 1 := rfl
      exact ⟨by omega, by omega, by omega, rfl⟩
  · have e1 : decide (¬ (1 ≤ n ∧ n ≤ 1000000)) = true := decide_eq_true h1
    have e2 : slotS n t = ⟨#[]⟩ := if_neg (fun h => h1 h.1)
    simp only [go_sem, Nat.reduceAdd, Nat.reduceSub, Nat.reduceMul, Nat.reduceEqDiff, Nat.reduceBEq, Nat.reduceBNe, Nat.reduceLT, Nat.reduceLeDiff, Int.reduceNeg, Int.reduceAdd, Int.reduceSub, Int.reduceMul, Int.reduceEq, Int.reduceLT, Int.reduceLE, Int.reduceToNat, reduceIte, reduceCtorEq, e1, e2]
end Go.VS

set_option linter.unusedSimpArgs false
set_option linter.unusedVariables false
open Go.Proofs
set_option maxRecDepth 20000
namespace Go.VS
theorem f142_at : gz.P.funcs[142]? = some Tryz.f142 := by
  have h : Tryz.prog.funcs[142]? = some Tryz.f142 := by kernel_rfl
  exact h
/-- the words of a text, up to a place; where the next one begins -/
def wordsN (s : ByteArray) : Nat → List ByteArray × Nat
  | 0 => ([], 0)
  | i + 1 => if i = s.size ∨ ((s.data.toList.getD i 0).toNat : Int) = 32 then ((wordsN s i).1 ++ [s.extract (wordsN s i).2 i], i + 1) else wordsN s i
theorem wordsN_le (s : ByteArray) : ∀ i, (wordsN s i).2 ≤ i ∧ (wordsN s i).1.length ≤ i
  | 0 => ⟨Nat.le_refl _, Nat.le_refl _⟩
  | i + 1 => by
    have := wordsN_le s i
    simp only [wordsN]
    split
    · simp; omega
    · omega
def wordsB (s : ByteArray) : List ByteArray := (wordsN s (s.size + 1)).1
theorem ok142 (s : ByteArray) (hs : s.size ≤ 4000000) : VCalls gz 142 [.lit (.string s)] none (fun y _ => y = .lst true 1 ((wordsB s).map strA)) := by
  refine VCalls.go (nt := 33) (keep := [0, 2, 3, 4, 5, 10, 22]) (muts := []) (mvs := []) [] f142_at rfl (by kernel_rfl) rfl (by kernel_rfl) rfl (fun i h => by cases h) rfl ?_
  intro hok
  simp only [go_sem, Nat.reduceAdd, Nat.reduceSub, Nat.reduceMul, Nat.reduceEqDiff, Nat.reduceBEq, Nat.reduceBNe, Nat.reduceLT, Nat.reduceLeDiff, Int.reduceNeg, Int.reduceAdd, Int.reduceSub, Int.reduceMul, Int.reduceEq, Int.reduceLT, Int.reduceLE, Int.reduceToNat, reduceIte, reduceCtorEq] at hok
  simp only [Tryz.f142, Func.code, Option.getD_some]
  simp only [go_sem, Nat.reduceAdd, Nat.reduceSub, Nat.reduceMul, Nat.reduceEqDiff, Nat.reduceBEq, Nat.reduceBNe, Nat.reduceLT, Nat.reduceLeDiff, Int.reduceNeg, Int.reduceAdd, Int.reduceSub, Int.reduceMul, Int.reduceEq, Int.reduceLT, Int.reduceLE, Int.reduceToNat, reduceIte, reduceCtorEq]
  refine vm_loopK (α := Nat) (fun i => [(0, .lit (.string s)), (3, .lst true 1 ((wordsN s i).1.map strA)), (4, .lit (.int .i64 (wordsN s i).2)), (5, .lit (.int .i64 i))]) (fun i => i ≤ s.size + 1) (fun i => s.size + 1 - i) 0 ?_ (by simp) (by kernel_rfl) (fun _ => rfl) ?_
  · simp only [go_sem, Nat.reduceAdd, Nat.reduceSub, Nat.reduceMul, Nat.reduceEqDiff, Nat.reduceBEq, Nat.reduceBNe, Nat.reduceLT, Nat.reduceLeDiff, Int.reduceNeg, Int.reduceAdd, Int.reduceSub, Int.reduceMul, Int.reduceEq, Int.reduceLT, Int.reduceLE, Int.reduceToNat, reduceIte, reduceCtorEq]
    exact ⟨rfl, rfl, rfl⟩
  · intro i hi hk
    have hle := wordsN_le s i
    simp only [go_sem, Nat.reduceAdd, Nat.reduceSub, Nat.reduceMul, Nat.reduceEqDiff, Nat.reduceBEq, Nat.reduceBNe, Nat.reduceLT, Nat.reduceLeDiff, Int.reduceNeg, Int.reduceAdd, Int.reduceSub, Int.reduceMul, Int.reduceEq, Int.reduceLT, Int.reduceLE, Int.reduceToNat, reduceIte, reduceCtorEq]
    intro hm
    first | refine branch_ndec (fun h => ?_) (fun h => ?_) | refine branch_dec (fun h => ?_) (fun h => ?_) | refine branch_nbool (fun h => ?_) (fun h => ?_) | refine branch_split (fun h => ?_) (fun h => ?_)
    · have hw : IntKind.i64.wrap ((i : Int) + 1) = (i : Int) + 1 := wrap64 (by omega) (by omega)
      simp only [go_sem, Nat.reduceAdd, Nat.reduceSub, Nat.reduceMul, Nat.reduceEqDiff, Nat.reduceBEq, Nat.reduceBNe, Nat.reduceLT, Nat.reduceLeDiff, Int.reduceNeg, Int.reduceAdd, Int.reduceSub, Int.reduceMul, Int.reduceEq, Int.reduceLT, Int.reduceLE, Int.reduceToNat, reduceIte, reduceCtorEq, hw]
      intro hm2
      first | refine gj_ndec (fun h1 => ?_) (fun h1 => ?_) | refine gj_dec (fun h1 => ?_) (fun h1 => ?_) | refine gj_nbool (fun h1 => ?_) (fun h1 => ?_) | refine gj_bool (fun h1 => ?_) (fun h1 => ?_)
      · have e : i = s.size := by omega
        have hn : wordsN s (i + 1) = ((wordsN s i).1 ++ [s.extract (wordsN s i).2 i], i + 1) := by simp only [wordsN]; rw [if_pos (.inl e)]
        simp only [go_sem, Nat.reduceAdd, Nat.reduceSub, Nat.reduceMul, Nat.reduceEqDiff, Nat.reduceBEq, Nat.reduceBNe, Nat.reduceLT, Nat.reduceLeDiff, Int.reduceNeg, Int.reduceAdd, Int.reduceSub, Int.reduceMul, Int.reduceEq, Int.reduceLT, Int.reduceLE, Int.reduceToNat, reduceIte, reduceCtorEq, eq_true h1]
        refine ⟨by omega, by omega, by omega, by omega, ?_⟩
        rw [hw]
        refine again_intro (i + 1) (by omega) (by omega) ?_
        simp only [go_sem, Nat.reduceAdd, Nat.reduceSub, Nat.reduceMul, Nat.reduceEqDiff, Nat.reduceBEq, Nat.reduceBNe, Nat.reduceLT, Nat.reduceLeDiff, Int.reduceNeg, Int.reduceAdd, Int.reduceSub, Int.reduceMul, Int.reduceEq, Int.reduceLT, Int.reduceLE, Int.reduceToNat, reduceIte, reduceCtorEq, hn]
        trivial
      · have hlt : i < s.size := by omega
        have h0 : (0 : Int) ≤ (i : Int) := by omega
        simp only [go_sem, Nat.reduceAdd, Nat.reduceSub, Nat.reduceMul, Nat.reduceEqDiff, Nat.reduceBEq, Nat.reduceBNe, Nat.reduceLT, Nat.reduceLeDiff, Int.reduceNeg, Int.reduceAdd, Int.reduceSub, Int.reduceMul, Int.reduceEq, Int.reduceLT, Int.reduceLE, Int.reduceToNat, reduceIte, reduceCtorEq, h1, h0, hlt]
        have hlt2 : (i : Int) < (s.size : Int) := by omega
        simp only [go_sem, Nat.reduceAdd, Nat.reduceSub, Nat.reduceMul, Nat.reduceEqDiff, Nat.reduceBEq, Nat.reduceBNe, Nat.reduceLT, Nat.reduceLeDiff, Int.reduceNeg, Int.reduceAdd, Int.reduceSub, Int.reduceMul, Int.reduceEq, Int.reduceLT, Int.reduceLE, Int.reduceToNat, reduceIte, reduceCtorEq, hlt2]
        first | refine branch_ndec (fun h2 => ?_) (fun h2 => ?_) | refine branch_dec (fun h2 => ?_) (fun h2 => ?_) | refine branch_nbool (fun h2 => ?_) (fun h2 => ?_) | refine branch_split (fun h2 => ?_) (fun h2 => ?_)
        · have hn : wordsN s (i + 1) = ((wordsN s i).1 ++ [s.extract (wordsN s i).2 i], i + 1) := by simp only [wordsN]; rw [if_pos (.inr h2)]
          simp only [go_sem, Nat.reduceAdd, Nat.reduceSub, Nat.reduceMul, Nat.reduceEqDiff, Nat.reduceBEq, Nat.reduceBNe, Nat.reduceLT, Nat.reduceLeDiff, Int.reduceNeg, Int.reduceAdd, Int.reduceSub, Int.reduceMul, Int.reduceEq, Int.reduceLT, Int.reduceLE, Int.reduceToNat, reduceIte, reduceCtorEq]
          refine ⟨by omega, by omega, by omega, by omega, ?_⟩
          rw [hw]
          refine again_intro (i + 1) (by omega) (by omega) ?_
          simp only [go_sem, Nat.reduceAdd, Nat.reduceSub, Nat.reduceMul, Nat.reduceEqDiff, Nat.reduceBEq, Nat.reduceBNe, Nat.reduceLT, Nat.reduceLeDiff, Int.reduceNeg, Int.reduceAdd, Int.reduceSub, Int.reduceMul, Int.reduceEq, Int.reduceLT, Int.reduceLE, Int.reduceToNat, reduceIte, reduceCtorEq, hn]
          trivial
        · have hn : wordsN s (i + 1) = wordsN s i := by simp only [wordsN]; rw [if_neg (by omega)]
          simp only [go_sem, Nat.reduceAdd, Nat.reduceSub, Nat.reduceMul, Nat.reduceEqDiff, Nat.reduceBEq, Nat.reduceBNe, Nat.reduceLT, Nat.reduceLeDiff, Int.reduceNeg, Int.reduceAdd, Int.reduceSub, Int.reduceMul, Int.reduceEq, Int.reduceLT, Int.reduceLE, Int.reduceToNat, reduceIte, reduceCtorEq, hw]
          refine again_intro (i + 1) (by omega) (by omega) ?_
          simp only [go_sem, Nat.reduceAdd, Nat.reduceSub, Nat.reduceMul, Nat.reduceEqDiff, Nat.reduceBEq, Nat.reduceBNe, Nat.reduceLT, Nat.reduceLeDiff, Int.reduceNeg, Int.reduceAdd, Int.reduceSub, Int.reduceMul, Int.reduceEq, Int.reduceLT, Int.reduceLE, Int.reduceToNat, reduceIte, reduceCtorEq, hn]
          rfl
    · simp only [go_sem, Nat.reduceAdd, Nat.reduceSub, Nat.reduceMul, Nat.reduceEqDiff, Nat.reduceBEq, Nat.reduceBNe, Nat.reduceLT, Nat.reduceLeDiff, Int.reduceNeg, Int.reduceAdd, Int.reduceSub, Int.reduceMul, Int.reduceEq, Int.reduceLT, Int.reduceLE, Int.reduceToNat, reduceIte, reduceCtorEq]
      have : i = s.size + 1 := by omega
      subst this
      rfl
end Go.VS

set_option linter.unusedSimpArgs false
set_option linter.unusedVariables false
open Go.Proofs
set_option maxRecDepth 20000
namespace Go.VS
theorem f143_at : gz.P.funcs[143]? = some Tryz.f143 := by
  have h : Tryz.prog.funcs[143]? = some Tryz.f143 := by kernel_rfl
  exact h
theorem pow_nDigits_le (u : Nat) : 1 ≤ u → 10 ^ (Lib.nDigits u - 1) ≤ u := by
  induction u using Nat.strongRecOn with
  | _ u ih =>
    intro h1
    by_cases h : u < 10
    · rw [Lib.nDigits_small h]; simpa using h1
    · have h2 := ih (u / 10) (by omega) (by omega)
      have h3 := Lib.nDigits_pos (u / 10)
      rw [Lib.nDigits_big h]
      have e : Lib.nDigits (u / 10) + 1 - 1 = (Lib.nDigits (u / 10) - 1) + 1 := by omega
      rw [e, Nat.pow_succ]
      omega
/-- a text that is a number written out -/
structure Num (k : Nat) (s : ByteArray) : Prop where
  sz : 1 ≤ s.size ∧ s.size ≤ 10
  at' : ∀ j, j < s.size → (s.data.toList.getD j 0).toNat = 48 + k / 10 ^ (s.size - 1 - j) % 10
  hd : k / 10 ^ (s.size - 1) % 10 ≠ 0
  all : k / 10 ^ s.size = 0
theorem itoaB_num {k : Nat} (h1 : 1 ≤ k) (h2 : k < 10000000000) : Num k (itoaB k) := by
  have hsz : (itoaB k).size = Lib.nDigits k := by
    rw [bsz]
    show ((Lib.itoa k).toArray.toList).length = _
    rw [Lib.itoa_nonneg, List.toList_toArray, Lib.decDigits_length]
  have p1 := Lib.nDigits_pos k
  have p2 := Lib.lt_pow_nDigits k
  have p3 := pow_nDigits_le k h1
  have p4 : Lib.nDigits k ≤ 10 := by
    refine Nat.le_of_not_lt fun h => ?_
    have : 10 ^ 10 ≤ 10 ^ (Lib.nDigits k - 1) := Nat.pow_le_pow_right (by decide) (by omega)
    omega
  refine ⟨by omega, fun j hj => ?_, ?_, ?_⟩
  · rw [hsz] at hj ⊢
    show (((Lib.itoa k).toArray.toList).getD j 0).toNat = _
    rw [Lib.itoa_nonneg, List.toList_toArray, Lib.decDigits_eq]
    simp only [List.getD, List.getElem?_map, List.getElem?_range hj, Option.map_some, Option.getD_some, Lib.dg]
    have : k / 10 ^ (Lib.nDigits k - 1 - j) % 10 < 10 := Nat.mod_lt _ (by decide)
    rw [UInt8.toNat_ofNat']
    omega
  · rw [hsz]
    have h5 : 1 ≤ k / 10 ^ (Lib.nDigits k - 1) := (Nat.le_div_iff_mul_le (Nat.pow_pos (by decide))).2 (by omega)
    have h6 : k / 10 ^ (Lib.nDigits k - 1) < 10 := by
      refine (Nat.div_lt_iff_lt_mul (Nat.pow_pos (by decide))).2 ?_
      have e : 10 * 10 ^ (Lib.nDigits k - 1) = 10 ^ Lib.nDigits k := by
        rw [Nat.mul_comm, ← Nat.pow_succ]; congr 1; omega
      omega
    omega
  · rw [hsz]
    exact Nat.div_eq_of_lt p2
theorem Num.step {k : Nat} {s : ByteArray} (h : Num k s) {i : Nat} (hi : i < s.size) : k / 10 ^ (s.size - (i + 1)) = k / 10 ^ (s.size - i) * 10 + k / 10 ^ (s.size - 1 - i) % 10 := by
  have e1 : s.size - (i + 1) = s.size - 1 - i := by omega
  have e2 : s.size - i = (s.size - 1 - i) + 1 := by omega
  rw [e1, e2, Nat.pow_succ, ← Nat.div_div_eq_div_mul]
  omega
theorem Num.pos {k : Nat} {s : ByteArray} (h : Num k s) : ¬ (((s.data.toList.getD 0 0).toNat : Int) = 45) := by
  have := h.at' 0 (by have := h.sz; omega)
  omega
theorem Num.dig {k : Nat} {s : ByteArray} (h : Num k s) {i : Nat} (hi : i < s.size) : 48 ≤ ((s.data.toList.getD i 0).toNat : Int) ∧ ((s.data.toList.getD i 0).toNat : Int) ≤ 57 := by
  have := h.at' i hi
  omega
theorem ok143 (s : ByteArray) (k : Nat) : VCalls gz 143 [.lit (.string s)] none (fun y _ => ∃ n b, y = .tup [.lit (.int .i64 n), .lit (.bool b)] ∧ (Num k s → n = k ∧ b = true)) := by
  refine VCalls.go (nt := 68) (keep := [0, 2, 3, 4, 5, 6, 7, 14, 26, 31, 43, 63, 64]) (muts := []) (mvs := []) [] f143_at rfl (by kernel_rfl) rfl (by kernel_rfl) rfl (fun i h => by cases h) rfl ?_
  intro hok
  simp only [go_sem, Nat.reduceAdd, Nat.reduceSub, Nat.reduceMul, Nat.reduceEqDiff, Nat.reduceBEq, Nat.reduceBNe, Nat.reduceLT, Nat.reduceLeDiff, Int.reduceNeg, Int.reduceAdd, Int.reduceSub, Int.reduceMul, Int.reduceEq, Int.reduceLT, Int.reduceLE, Int.reduceToNat, reduceIte, reduceCtorEq] at hok
  simp only [Tryz.f143, Func.code, Option.getD_some]
  simp only [go_sem, Nat.reduceAdd, Nat.reduceSub, Nat.reduceMul, Nat.reduceEqDiff, Nat.reduceBEq, Nat.reduceBNe, Nat.reduceLT, Nat.reduceLeDiff, Int.reduceNeg, Int.reduceAdd, Int.reduceSub, Int.reduceMul, Int.reduceEq, Int.reduceLT, Int.reduceLE, Int.reduceToNat, reduceIte, reduceCtorEq]
  first | refine gj_ndec (fun h => ?_) (fun h => ?_) | refine gj_dec (fun h => ?_) (fun h => ?_) | refine gj_nbool (fun h => ?_) (fun h => ?_) | refine gj_bool (fun h => ?_) (fun h => ?_)
  · simp only [go_sem, Nat.reduceAdd, Nat.reduceSub, Nat.reduceMul, Nat.reduceEqDiff, Nat.reduceBEq, Nat.reduceBNe, Nat.reduceLT, Nat.reduceLeDiff, Int.reduceNeg, Int.reduceAdd, Int.reduceSub, Int.reduceMul, Int.reduceEq, Int.reduceLT, Int.reduceLE, Int.reduceToNat, reduceIte, reduceCtorEq, eq_true h]
    have hz : s.size = 0 := by rw [h]; rfl
    have hf : Num k s → (0 : Int) = 0 := fun _ => rfl
    have hw1 : IntKind.i64.wrap ((s.size : Int) - 0) = (s.size : Int) - 0 := wrap64 (by omega) (by omega)
    intro _
    rw [hw1]
    first | refine gj_ndec (fun h3 => ?_) (fun h3 => ?_) | refine gj_dec (fun h3 => ?_) (fun h3 => ?_) | refine gj_nbool (fun h3 => ?_) (fun h3 => ?_) | refine gj_bool (fun h3 => ?_) (fun h3 => ?_)
    · simp only [go_sem, Nat.reduceAdd, Nat.reduceSub, Nat.reduceMul, Nat.reduceEqDiff, Nat.reduceBEq, Nat.reduceBNe, Nat.reduceLT, Nat.reduceLeDiff, Int.reduceNeg, Int.reduceAdd, Int.reduceSub, Int.reduceMul, Int.reduceEq, Int.reduceLT, Int.reduceLE, Int.reduceToNat, reduceIte, reduceCtorEq, h3]
      exact ⟨_, _, ⟨rfl, rfl⟩, fun hn => by have := hn.sz; have := hf hn; omega⟩
    · have h30 : ¬ ((s.size : Int) - 0 < 1) := h3
      simp only [go_sem, Nat.reduceAdd, Nat.reduceSub, Nat.reduceMul, Nat.reduceEqDiff, Nat.reduceBEq, Nat.reduceBNe, Nat.reduceLT, Nat.reduceLeDiff, Int.reduceNeg, Int.reduceAdd, Int.reduceSub, Int.reduceMul, Int.reduceEq, Int.reduceLT, Int.reduceLE, Int.reduceToNat, reduceIte, reduceCtorEq, h30]
      intro _
      first | refine branch_ndec (fun h4 => ?_) (fun h4 => ?_) | refine branch_dec (fun h4 => ?_) (fun h4 => ?_) | refine branch_nbool (fun h4 => ?_) (fun h4 => ?_) | refine branch_split (fun h4 => ?_) (fun h4 => ?_)
      · simp only [go_sem, Nat.reduceAdd, Nat.reduceSub, Nat.reduceMul, Nat.reduceEqDiff, Nat.reduceBEq, Nat.reduceBNe, Nat.reduceLT, Nat.reduceLeDiff, Int.reduceNeg, Int.reduceAdd, Int.reduceSub, Int.reduceMul, Int.reduceEq, Int.reduceLT, Int.reduceLE, Int.reduceToNat, reduceIte, reduceCtorEq]
        exact ⟨_, _, ⟨rfl, rfl⟩, fun hn => by have := hn.sz; have := hf hn; omega⟩
      · simp only [go_sem, Nat.reduceAdd, Nat.reduceSub, Nat.reduceMul, Nat.reduceEqDiff, Nat.reduceBEq, Nat.reduceBNe, Nat.reduceLT, Nat.reduceLeDiff, Int.reduceNeg, Int.reduceAdd, Int.reduceSub, Int.reduceMul, Int.reduceEq, Int.reduceLT, Int.reduceLE, Int.reduceToNat, reduceIte, reduceCtorEq]
        rw [hw1] at h4
        refine vm_loopK (α := Nat × Int) (fun q => [(0, .lit (.string s)), (4, .lit (.int .i64 0)), (5, .lit (.bool false)), (6, .lit (.int .i64 q.2)), (7, .lit (.int .i64 q.1)) ]) (fun q => q.1 ≤ s.size ∧ (0 ≤ q.2 ∧ q.2 < (10 ^ q.1 : Nat)) ∧ (Num k s → q.2 = (k / 10 ^ (s.size - q.1) : Nat))) (fun q => s.size - q.1) (0, 0) ?_ ?_ (by kernel_rfl) (fun _ => rfl) ?_
        · simp only [go_sem, Nat.reduceAdd, Nat.reduceSub, Nat.reduceMul, Nat.reduceEqDiff, Nat.reduceBEq, Nat.reduceBNe, Nat.reduceLT, Nat.reduceLeDiff, Int.reduceNeg, Int.reduceAdd, Int.reduceSub, Int.reduceMul, Int.reduceEq, Int.reduceLT, Int.reduceLE, Int.reduceToNat, reduceIte, reduceCtorEq]
          trivial
        · exact ⟨by simp only; omega, ⟨by simp only; omega, by decide⟩, fun hn => by
            first
              | exact absurd (hf hn) (by decide)
              | (show (0 : Int) = ((k / 10 ^ (s.size - 0) : Nat) : Int); rw [Nat.sub_zero, hn.all]; rfl)⟩
        · rintro ⟨i, v⟩ hi hk
          simp only at hi
          obtain ⟨i1, ⟨i2, i3⟩, i4⟩ := hi
          have i5 : 10 ^ i ≤ 10 ^ 11 := Nat.pow_le_pow_right (by decide) (by omega)
          simp only [go_sem, Nat.reduceAdd, Nat.reduceSub, Nat.reduceMul, Nat.reduceEqDiff, Nat.reduceBEq, Nat.reduceBNe, Nat.reduceLT, Nat.reduceLeDiff, Int.reduceNeg, Int.reduceAdd, Int.reduceSub, Int.reduceMul, Int.reduceEq, Int.reduceLT, Int.reduceLE, Int.reduceToNat, reduceIte, reduceCtorEq]
          intro _
          first | refine branch_ndec (fun h5 => ?_) (fun h5 => ?_) | refine branch_dec (fun h5 => ?_) (fun h5 => ?_) | refine branch_nbool (fun h5 => ?_) (fun h5 => ?_) | refine branch_split (fun h5 => ?_) (fun h5 => ?_)
          · have hlt : i < s.size := by omega
            have h0 : (0 : Int) ≤ (i : Int) := by omega
            have hc := u8_lt (s.data.toList.getD i 0)
            simp only [go_sem, Nat.reduceAdd, Nat.reduceSub, Nat.reduceMul, Nat.reduceEqDiff, Nat.reduceBEq, Nat.reduceBNe, Nat.reduceLT, Nat.reduceLeDiff, Int.reduceNeg, Int.reduceAdd, Int.reduceSub, Int.reduceMul, Int.reduceEq, Int.reduceLT, Int.reduceLE, Int.reduceToNat, reduceIte, reduceCtorEq, h0, h5, hlt]
            first | refine gj_ndec (fun h6 => ?_) (fun h6 => ?_) | refine gj_dec (fun h6 => ?_) (fun h6 => ?_) | refine gj_nbool (fun h6 => ?_) (fun h6 => ?_) | refine gj_bool (fun h6 => ?_) (fun h6 => ?_)
            · simp only [go_sem, Nat.reduceAdd, Nat.reduceSub, Nat.reduceMul, Nat.reduceEqDiff, Nat.reduceBEq, Nat.reduceBNe, Nat.reduceLT, Nat.reduceLeDiff, Int.reduceNeg, Int.reduceAdd, Int.reduceSub, Int.reduceMul, Int.reduceEq, Int.reduceLT, Int.reduceLE, Int.reduceToNat, reduceIte, reduceCtorEq, h6]
              exact ⟨_, _, ⟨rfl, rfl⟩, fun hn => by have := hn.dig hlt; omega⟩
            · simp only [go_sem, Nat.reduceAdd, Nat.reduceSub, Nat.reduceMul, Nat.reduceEqDiff, Nat.reduceBEq, Nat.reduceBNe, Nat.reduceLT, Nat.reduceLeDiff, Int.reduceNeg, Int.reduceAdd, Int.reduceSub, Int.reduceMul, Int.reduceEq, Int.reduceLT, Int.reduceLE, Int.reduceToNat, reduceIte, reduceCtorEq, h6, h0, hlt]
              refine ⟨by omega, ?_⟩
              first | refine branch_ndec (fun h7 => ?_) (fun h7 => ?_) | refine branch_dec (fun h7 => ?_) (fun h7 => ?_) | refine branch_nbool (fun h7 => ?_) (fun h7 => ?_) | refine branch_split (fun h7 => ?_) (fun h7 => ?_)
              · simp only [go_sem, Nat.reduceAdd, Nat.reduceSub, Nat.reduceMul, Nat.reduceEqDiff, Nat.reduceBEq, Nat.reduceBNe, Nat.reduceLT, Nat.reduceLeDiff, Int.reduceNeg, Int.reduceAdd, Int.reduceSub, Int.reduceMul, Int.reduceEq, Int.reduceLT, Int.reduceLE, Int.reduceToNat, reduceIte, reduceCtorEq]
                exact ⟨_, _, ⟨rfl, rfl⟩, fun hn => by have := hn.dig hlt; omega⟩
              · simp only [go_sem, Nat.reduceAdd, Nat.reduceSub, Nat.reduceMul, Nat.reduceEqDiff, Nat.reduceBEq, Nat.reduceBNe, Nat.reduceLT, Nat.reduceLeDiff, Int.reduceNeg, Int.reduceAdd, Int.reduceSub, Int.reduceMul, Int.reduceEq, Int.reduceLT, Int.reduceLE, Int.reduceToNat, reduceIte, reduceCtorEq, h0, h5]
                simp (disch := omega) only [wrap64, wrapU64, wrapU32, wrapU8]
                have hinv : i + 1 ≤ s.size ∧ (0 ≤ v * 10 + (((s.data.toList.getD i 0).toNat : Int) - 48) ∧ v * 10 + (((s.data.toList.getD i 0).toNat : Int) - 48) < ((10 ^ (i + 1) : Nat) : Int)) ∧ (Num k s → v * 10 + (((s.data.toList.getD i 0).toNat : Int) - 48) = ((k / 10 ^ (s.size - (i + 1)) : Nat) : Int)) := ⟨by omega, ⟨by omega, by simp only [Nat.pow_succ]; omega⟩, fun hn => by
                  have p1 := i4 hn
                  have p2 := hn.step hlt
                  have p3 := hn.at' i hlt
                  rw [p2, p1, p3]
                  omega⟩
                refine again_intro (i + 1, v * 10 + (((s.data.toList.getD i 0).toNat : Int) - 48)) hinv (by simp only; omega) ?_
                simp only [go_sem, Nat.reduceAdd, Nat.reduceSub, Nat.reduceMul, Nat.reduceEqDiff, Nat.reduceBEq, Nat.reduceBNe, Nat.reduceLT, Nat.reduceLeDiff, Int.reduceNeg, Int.reduceAdd, Int.reduceSub, Int.reduceMul, Int.reduceEq, Int.reduceLT, Int.reduceLE, Int.reduceToNat, reduceIte, reduceCtorEq]
                trivial
          · have e : i = s.size := by omega
            subst e
            have hv : Num k s → v = k := fun hn => by have := i4 hn; simpa using this
            simp only [go_sem, Nat.reduceAdd, Nat.reduceSub, Nat.reduceMul, Nat.reduceEqDiff, Nat.reduceBEq, Nat.reduceBNe, Nat.reduceLT, Nat.reduceLeDiff, Int.reduceNeg, Int.reduceAdd, Int.reduceSub, Int.reduceMul, Int.reduceEq, Int.reduceLT, Int.reduceLE, Int.reduceToNat, reduceIte, reduceCtorEq]
            refine ⟨by omega, ?_⟩
            first | refine gj_ndec (fun h8 => ?_) (fun h8 => ?_) | refine gj_dec (fun h8 => ?_) (fun h8 => ?_) | refine gj_nbool (fun h8 => ?_) (fun h8 => ?_) | refine gj_bool (fun h8 => ?_) (fun h8 => ?_)
            · simp only [go_sem, Nat.reduceAdd, Nat.reduceSub, Nat.reduceMul, Nat.reduceEqDiff, Nat.reduceBEq, Nat.reduceBNe, Nat.reduceLT, Nat.reduceLeDiff, Int.reduceNeg, Int.reduceAdd, Int.reduceSub, Int.reduceMul, Int.reduceEq, Int.reduceLT, Int.reduceLE, Int.reduceToNat, reduceIte, reduceCtorEq, h8]
              intro _
              first | refine branch_ndec (fun h9 => ?_) (fun h9 => ?_) | refine branch_dec (fun h9 => ?_) (fun h9 => ?_) | refine branch_nbool (fun h9 => ?_) (fun h9 => ?_) | refine branch_split (fun h9 => ?_) (fun h9 => ?_)
              · simp only [go_sem, Nat.reduceAdd, Nat.reduceSub, Nat.reduceMul, Nat.reduceEqDiff, Nat.reduceBEq, Nat.reduceBNe, Nat.reduceLT, Nat.reduceLeDiff, Int.reduceNeg, Int.reduceAdd, Int.reduceSub, Int.reduceMul, Int.reduceEq, Int.reduceLT, Int.reduceLE, Int.reduceToNat, reduceIte, reduceCtorEq]
                exact ⟨_, _, ⟨rfl, rfl⟩, fun hn => by have := hn.hd; have := hn.at' 0 (by omega); simp only [Nat.sub_zero] at this; omega⟩
              · simp only [go_sem, Nat.reduceAdd, Nat.reduceSub, Nat.reduceMul, Nat.reduceEqDiff, Nat.reduceBEq, Nat.reduceBNe, Nat.reduceLT, Nat.reduceLeDiff, Int.reduceNeg, Int.reduceAdd, Int.reduceSub, Int.reduceMul, Int.reduceEq, Int.reduceLT, Int.reduceLE, Int.reduceToNat, reduceIte, reduceCtorEq]
                exact ⟨_, _, ⟨rfl, rfl⟩, fun hn => ⟨hv hn, rfl⟩⟩
            · simp only [go_sem, Nat.reduceAdd, Nat.reduceSub, Nat.reduceMul, Nat.reduceEqDiff, Nat.reduceBEq, Nat.reduceBNe, Nat.reduceLT, Nat.reduceLeDiff, Int.reduceNeg, Int.reduceAdd, Int.reduceSub, Int.reduceMul, Int.reduceEq, Int.reduceLT, Int.reduceLE, Int.reduceToNat, reduceIte, reduceCtorEq, h8]
              exact ⟨_, _, ⟨rfl, rfl⟩, fun hn => ⟨hv hn, rfl⟩⟩
  · simp only [go_sem, Nat.reduceAdd, Nat.reduceSub, Nat.reduceMul, Nat.reduceEqDiff, Nat.reduceBEq, Nat.reduceBNe, Nat.reduceLT, Nat.reduceLeDiff, Int.reduceNeg, Int.reduceAdd, Int.reduceSub, Int.reduceMul, Int.reduceEq, Int.reduceLT, Int.reduceLE, Int.reduceToNat, reduceIte, reduceCtorEq, h]
    have hz : 0 < s.size := Nat.pos_of_ne_zero fun hz => by
      have : s.data.toList = [] := List.eq_nil_of_length_eq_zero (by rw [← bsz]; exact hz)
      exact h (bext (this.trans rfl))
    refine ⟨by omega, ?_⟩
    first | refine branch_ndec (fun h2 => ?_) (fun h2 => ?_) | refine branch_dec (fun h2 => ?_) (fun h2 => ?_) | refine branch_nbool (fun h2 => ?_) (fun h2 => ?_) | refine branch_split (fun h2 => ?_) (fun h2 => ?_)
    · simp only [go_sem, Nat.reduceAdd, Nat.reduceSub, Nat.reduceMul, Nat.reduceEqDiff, Nat.reduceBEq, Nat.reduceBNe, Nat.reduceLT, Nat.reduceLeDiff, Int.reduceNeg, Int.reduceAdd, Int.reduceSub, Int.reduceMul, Int.reduceEq, Int.reduceLT, Int.reduceLE, Int.reduceToNat, reduceIte, reduceCtorEq]
      have hf : Num k s → (1 : Int) = 0 := fun hn => absurd h2 hn.pos
      have hw1 : IntKind.i64.wrap ((s.size : Int) - 1) = (s.size : Int) - 1 := wrap64 (by omega) (by omega)
      intro _
      rw [hw1]
      first | refine gj_ndec (fun h3 => ?_) (fun h3 => ?_) | refine gj_dec (fun h3 => ?_) (fun h3 => ?_) | refine gj_nbool (fun h3 => ?_) (fun h3 => ?_) | refine gj_bool (fun h3 => ?_) (fun h3 => ?_)
      · simp only [go_sem, Nat.reduceAdd, Nat.reduceSub, Nat.reduceMul, Nat.reduceEqDiff, Nat.reduceBEq, Nat.reduceBNe, Nat.reduceLT, Nat.reduceLeDiff, Int.reduceNeg, Int.reduceAdd, Int.reduceSub, Int.reduceMul, Int.reduceEq, Int.reduceLT, Int.reduceLE, Int.reduceToNat, reduceIte, reduceCtorEq, h3]
        exact ⟨_, _, ⟨rfl, rfl⟩, fun hn => by have := hn.sz; have := hf hn; omega⟩
      · have h30 : ¬ ((s.size : Int) - 1 < 1) := h3
        simp only [go_sem, Nat.reduceAdd, Nat.reduceSub, Nat.reduceMul, Nat.reduceEqDiff, Nat.reduceBEq, Nat.reduceBNe, Nat.reduceLT, Nat.reduceLeDiff, Int.reduceNeg, Int.reduceAdd, Int.reduceSub, Int.reduceMul, Int.reduceEq, Int.reduceLT, Int.reduceLE, Int.reduceToNat, reduceIte, reduceCtorEq, h30]
        intro _
        first | refine branch_ndec (fun h4 => ?_) (fun h4 => ?_) | refine branch_dec (fun h4 => ?_) (fun h4 => ?_) | refine branch_nbool (fun h4 => ?_) (fun h4 => ?_) | refine branch_split (fun h4 => ?_) (fun h4 => ?_)
        · simp only [go_sem, Nat.reduceAdd, Nat.reduceSub, Nat.reduceMul, Nat.reduceEqDiff, Nat.reduceBEq, Nat.reduceBNe, Nat.reduceLT, Nat.reduceLeDiff, Int.reduceNeg, Int.reduceAdd, Int.reduceSub, Int.reduceMul, Int.reduceEq, Int.reduceLT, Int.reduceLE, Int.reduceToNat, reduceIte, reduceCtorEq]
          exact ⟨_, _, ⟨rfl, rfl⟩, fun hn => by have := hn.sz; have := hf hn; omega⟩
        · simp only [go_sem, Nat.reduceAdd, Nat.reduceSub, Nat.reduceMul, Nat.reduceEqDiff, Nat.reduceBEq, Nat.reduceBNe, Nat.reduceLT, Nat.reduceLeDiff, Int.reduceNeg, Int.reduceAdd, Int.reduceSub, Int.reduceMul, Int.reduceEq, Int.reduceLT, Int.reduceLE, Int.reduceToNat, reduceIte, reduceCtorEq]
          rw [hw1] at h4
          refine vm_loopK (α := Nat × Int) (fun q => [(0, .lit (.string s)), (4, .lit (.int .i64 1)), (5, .lit (.bool true)), (6, .lit (.int .i64 q.2)), (7, .lit (.int .i64 q.1)) ]) (fun q => q.1 ≤ s.size ∧ (0 ≤ q.2 ∧ q.2 < (10 ^ q.1 : Nat)) ∧ (Num k s → q.2 = (k / 10 ^ (s.size - q.1) : Nat))) (fun q => s.size - q.1) (1, 0) ?_ ?_ (by kernel_rfl) (fun _ => rfl) ?_
          · simp only [go_sem, Nat.reduceAdd, Nat.reduceSub, Nat.reduceMul, Nat.reduceEqDiff, Nat.reduceBEq, Nat.reduceBNe, Nat.reduceLT, Nat.reduceLeDiff, Int.reduceNeg, Int.reduceAdd, Int.reduceSub, Int.reduceMul, Int.reduceEq, Int.reduceLT, Int.reduceLE, Int.reduceToNat, reduceIte, reduceCtorEq]
            trivial
          · exact ⟨by simp only; omega, ⟨by simp only; omega, by decide⟩, fun hn => by
              first
                | exact absurd (hf hn) (by decide)
                | (show (0 : Int) = ((k / 10 ^ (s.size - 0) : Nat) : Int); rw [Nat.sub_zero, hn.all]; rfl)⟩
          · rintro ⟨i, v⟩ hi hk
            simp only at hi
            obtain ⟨i1, ⟨i2, i3⟩, i4⟩ := hi
            have i5 : 10 ^ i ≤ 10 ^ 11 := Nat.pow_le_pow_right (by decide) (by omega)
            simp only [go_sem, Nat.reduceAdd, Nat.reduceSub, Nat.reduceMul, Nat.reduceEqDiff, Nat.reduceBEq, Nat.reduceBNe, Nat.reduceLT, Nat.reduceLeDiff, Int.reduceNeg, Int.reduceAdd, Int.reduceSub, Int.reduceMul, Int.reduceEq, Int.reduceLT, Int.reduceLE, Int.reduceToNat, reduceIte, reduceCtorEq]
            intro _
            first | refine branch_ndec (fun h5 => ?_) (fun h5 => ?_) | refine branch_dec (fun h5 => ?_) (fun h5 => ?_) | refine branch_nbool (fun h5 => ?_) (fun h5 => ?_) | refine branch_split (fun h5 => ?_) (fun h5 => ?_)
            · have hlt : i < s.size := by omega
              have h0 : (0 : Int) ≤ (i : Int) := by omega
              have hc := u8_lt (s.data.toList.getD i 0)
              simp only [go_sem, Nat.reduceAdd, Nat.reduceSub, Nat.reduceMul, Nat.reduceEqDiff, Nat.reduceBEq, Nat.reduceBNe, Nat.reduceLT, Nat.reduceLeDiff, Int.reduceNeg, Int.reduceAdd, Int.reduceSub, Int.reduceMul, Int.reduceEq, Int.reduceLT, Int.reduceLE, Int.reduceToNat, reduceIte, reduceCtorEq, h0, h5, hlt]
              first | refine gj_ndec (fun h6 => ?_) (fun h6 => ?_) | refine gj_dec (fun h6 => ?_) (fun h6 => ?_) | refine gj_nbool (fun h6 => ?_) (fun h6 => ?_) | refine gj_bool (fun h6 => ?_) (fun h6 => ?_)
              · simp only [go_sem, Nat.reduceAdd, Nat.reduceSub, Nat.reduceMul, Nat.reduceEqDiff, Nat.reduceBEq, Nat.reduceBNe, Nat.reduceLT, Nat.reduceLeDiff, Int.reduceNeg, Int.reduceAdd, Int.reduceSub, Int.reduceMul, Int.reduceEq, Int.reduceLT, Int.reduceLE, Int.reduceToNat, reduceIte, reduceCtorEq, h6]
                exact ⟨_, _, ⟨rfl, rfl⟩, fun hn => by have := hn.dig hlt; omega⟩
              · simp only [go_sem, Nat.reduceAdd, Nat.reduceSub, Nat.reduceMul, Nat.reduceEqDiff, Nat.reduceBEq, Nat.reduceBNe, Nat.reduceLT, Nat.reduceLeDiff, Int.reduceNeg, Int.reduceAdd, Int.reduceSub, Int.reduceMul, Int.reduceEq, Int.reduceLT, Int.reduceLE, Int.reduceToNat, reduceIte, reduceCtorEq, h6, h0, hlt]
                refine ⟨by omega, ?_⟩
                first | refine branch_ndec (fun h7 => ?_) (fun h7 => ?_) | refine branch_dec (fun h7 => ?_) (fun h7 => ?_) | refine branch_nbool (fun h7 => ?_) (fun h7 => ?_) | refine branch_split (fun h7 => ?_) (fun h7 => ?_)
                · simp only [go_sem, Nat.reduceAdd, Nat.reduceSub, Nat.reduceMul, Nat.reduceEqDiff, Nat.reduceBEq, Nat.reduceBNe, Nat.reduceLT, Nat.reduceLeDiff, Int.reduceNeg, Int.reduceAdd, Int.reduceSub, Int.reduceMul, Int.reduceEq, Int.reduceLT, Int.reduceLE, Int.reduceToNat, reduceIte, reduceCtorEq]
                  exact ⟨_, _, ⟨rfl, rfl⟩, fun hn => by have := hn.dig hlt; omega⟩
                · simp only [go_sem, Nat.reduceAdd, Nat.reduceSub, Nat.reduceMul, Nat.reduceEqDiff, Nat.reduceBEq, Nat.reduceBNe, Nat.reduceLT, Nat.reduceLeDiff, Int.reduceNeg, Int.reduceAdd, Int.reduceSub, Int.reduceMul, Int.reduceEq, Int.reduceLT, Int.reduceLE, Int.reduceToNat, reduceIte, reduceCtorEq, h0, h5]
                  simp (disch := omega) only [wrap64, wrapU64, wrapU32, wrapU8]
                  have hinv : i + 1 ≤ s.size ∧ (0 ≤ v * 10 + (((s.data.toList.getD i 0).toNat : Int) - 48) ∧ v * 10 + (((s.data.toList.getD i 0).toNat : Int) - 48) < ((10 ^ (i + 1) : Nat) : Int)) ∧ (Num k s → v * 10 + (((s.data.toList.getD i 0).toNat : Int) - 48) = ((k / 10 ^ (s.size - (i + 1)) : Nat) : Int)) := ⟨by omega, ⟨by omega, by simp only [Nat.pow_succ]; omega⟩, fun hn => by
                    have p1 := i4 hn
                    have p2 := hn.step hlt
                    have p3 := hn.at' i hlt
                    rw [p2, p1, p3]
                    omega⟩
                  refine again_intro (i + 1, v * 10 + (((s.data.toList.getD i 0).toNat : Int) - 48)) hinv (by simp only; omega) ?_
                  simp only [go_sem, Nat.reduceAdd, Nat.reduceSub, Nat.reduceMul, Nat.reduceEqDiff, Nat.reduceBEq, Nat.reduceBNe, Nat.reduceLT, Nat.reduceLeDiff, Int.reduceNeg, Int.reduceAdd, Int.reduceSub, Int.reduceMul, Int.reduceEq, Int.reduceLT, Int.reduceLE, Int.reduceToNat, reduceIte, reduceCtorEq]
                  trivial
            · have e : i = s.size := by omega
              subst e
              have hv : Num k s → v = k := fun hn => by have := i4 hn; simpa using this
              simp only [go_sem, Nat.reduceAdd, Nat.reduceSub, Nat.reduceMul, Nat.reduceEqDiff, Nat.reduceBEq, Nat.reduceBNe, Nat.reduceLT, Nat.reduceLeDiff, Int.reduceNeg, Int.reduceAdd, Int.reduceSub, Int.reduceMul, Int.reduceEq, Int.reduceLT, Int.reduceLE, Int.reduceToNat, reduceIte, reduceCtorEq]
              refine ⟨by omega, ?_⟩
              first | refine gj_ndec (fun h8 => ?_) (fun h8 => ?_) | refine gj_dec (fun h8 => ?_) (fun h8 => ?_) | refine gj_nbool (fun h8 => ?_) (fun h8 => ?_) | refine gj_bool (fun h8 => ?_) (fun h8 => ?_)
              · simp only [go_sem, Nat.reduceAdd, Nat.reduceSub, Nat.reduceMul, Nat.reduceEqDiff, Nat.reduceBEq, Nat.reduceBNe, Nat.reduceLT, Nat.reduceLeDiff, Int.reduceNeg, Int.reduceAdd, Int.reduceSub, Int.reduceMul, Int.reduceEq, Int.reduceLT, Int.reduceLE, Int.reduceToNat, reduceIte, reduceCtorEq, h8]
                exact ⟨_, _, ⟨rfl, rfl⟩, fun hn => by have := hf hn; omega⟩
              · simp only [go_sem, Nat.reduceAdd, Nat.reduceSub, Nat.reduceMul, Nat.reduceEqDiff, Nat.reduceBEq, Nat.reduceBNe, Nat.reduceLT, Nat.reduceLeDiff, Int.reduceNeg, Int.reduceAdd, Int.reduceSub, Int.reduceMul, Int.reduceEq, Int.reduceLT, Int.reduceLE, Int.reduceToNat, reduceIte, reduceCtorEq, h8]
                exact ⟨_, _, ⟨rfl, rfl⟩, fun hn => by have := hf hn; omega⟩
    · simp only [go_sem, Nat.reduceAdd, Nat.reduceSub, Nat.reduceMul, Nat.reduceEqDiff, Nat.reduceBEq, Nat.reduceBNe, Nat.reduceLT, Nat.reduceLeDiff, Int.reduceNeg, Int.reduceAdd, Int.reduceSub, Int.reduceMul, Int.reduceEq, Int.reduceLT, Int.reduceLE, Int.reduceToNat, reduceIte, reduceCtorEq]
      have hf : Num k s → (0 : Int) = 0 := fun _ => rfl
      have hw1 : IntKind.i64.wrap ((s.size : Int) - 0) = (s.size : Int) - 0 := wrap64 (by omega) (by omega)
      intro _
      rw [hw1]
      first | refine gj_ndec (fun h3 => ?_) (fun h3 => ?_) | refine gj_dec (fun h3 => ?_) (fun h3 => ?_) | refine gj_nbool (fun h3 => ?_) (fun h3 => ?_) | refine gj_bool (fun h3 => ?_) (fun h3 => ?_)
      · simp only [go_sem, Nat.reduceAdd, Nat.reduceSub, Nat.reduceMul, Nat.reduceEqDiff, Nat.reduceBEq, Nat.reduceBNe, Nat.reduceLT, Nat.reduceLeDiff, Int.reduceNeg, Int.reduceAdd, Int.reduceSub, Int.reduceMul, Int.reduceEq, Int.reduceLT, Int.reduceLE, Int.reduceToNat, reduceIte, reduceCtorEq, h3]
        exact ⟨_, _, ⟨rfl, rfl⟩, fun hn => by have := hn.sz; have := hf hn; omega⟩
      · have h30 : ¬ ((s.size : Int) - 0 < 1) := h3
        simp only [go_sem, Nat.reduceAdd, Nat.reduceSub, Nat.reduceMul, Nat.reduceEqDiff, Nat.reduceBEq, Nat.reduceBNe, Nat.reduceLT, Nat.reduceLeDiff, Int.reduceNeg, Int.reduceAdd, Int.reduceSub, Int.reduceMul, Int.reduceEq, Int.reduceLT, Int.reduceLE, Int.reduceToNat, reduceIte, reduceCtorEq, h30]
        intro _
        first | refine branch_ndec (fun h4 => ?_) (fun h4 => ?_) | refine branch_dec (fun h4 => ?_) (fun h4 => ?_) | refine branch_nbool (fun h4 => ?_) (fun h4 => ?_) | refine branch_split (fun h4 => ?_) (fun h4 => ?_)
        · simp only [go_sem, Nat.reduceAdd, Nat.reduceSub, Nat.reduceMul, Nat.reduceEqDiff, Nat.reduceBEq, Nat.reduceBNe, Nat.reduceLT, Nat.reduceLeDiff, Int.reduceNeg, Int.reduceAdd, Int.reduceSub, Int.reduceMul, Int.reduceEq, Int.reduceLT, Int.reduceLE, Int.reduceToNat, reduceIte, reduceCtorEq]
          exact ⟨_, _, ⟨rfl, rfl⟩, fun hn => by have := hn.sz; have := hf hn; omega⟩
        · simp only [go_sem, Nat.reduceAdd, Nat.reduceSub, Nat.reduceMul, Nat.reduceEqDiff, Nat.reduceBEq, Nat.reduceBNe, Nat.reduceLT, Nat.reduceLeDiff, Int.reduceNeg, Int.reduceAdd, Int.reduceSub, Int.reduceMul, Int.reduceEq, Int.reduceLT, Int.reduceLE, Int.reduceToNat, reduceIte, reduceCtorEq]
          rw [hw1] at h4
          refine vm_loopK (α := Nat × Int) (fun q => [(0, .lit (.string s)), (4, .lit (.int .i64 0)), (5, .lit (.bool false)), (6, .lit (.int .i64 q.2)), (7, .lit (.int .i64 q.1)) ]) (fun q => q.1 ≤ s.size ∧ (0 ≤ q.2 ∧ q.2 < (10 ^ q.1 : Nat)) ∧ (Num k s → q.2 = (k / 10 ^ (s.size - q.1) : Nat))) (fun q => s.size - q.1) (0, 0) ?_ ?_ (by kernel_rfl) (fun _ => rfl) ?_
          · simp only [go_sem, Nat.reduceAdd, Nat.reduceSub, Nat.reduceMul, Nat.reduceEqDiff, Nat.reduceBEq, Nat.reduceBNe, Nat.reduceLT, Nat.reduceLeDiff, Int.reduceNeg, Int.reduceAdd, Int.reduceSub, Int.reduceMul, Int.reduceEq, Int.reduceLT, Int.reduceLE, Int.reduceToNat, reduceIte, reduceCtorEq]
            trivial
          · exact ⟨by simp only; omega, ⟨by simp only; omega, by decide⟩, fun hn => by
              first
                | exact absurd (hf hn) (by decide)
                | (show (0 : Int) = ((k / 10 ^ (s.size - 0) : Nat) : Int); rw [Nat.sub_zero, hn.all]; rfl)⟩
          · rintro ⟨i, v⟩ hi hk
            simp only at hi
            obtain ⟨i1, ⟨i2, i3⟩, i4⟩ := hi
            have i5 : 10 ^ i ≤ 10 ^ 11 := Nat.pow_le_pow_right (by decide) (by omega)
            simp only [go_sem, Nat.reduceAdd, Nat.reduceSub, Nat.reduceMul, Nat.reduceEqDiff, Nat.reduceBEq, Nat.reduceBNe, Nat.reduceLT, Nat.reduceLeDiff, Int.reduceNeg, Int.reduceAdd, Int.reduceSub, Int.reduceMul, Int.reduceEq, Int.reduceLT, Int.reduceLE, Int.reduceToNat, reduceIte, reduceCtorEq]
            intro _
            first | refine branch_ndec (fun h5 => ?_) (fun h5 => ?_) | refine branch_dec (fun h5 => ?_) (fun h5 => ?_) | refine branch_nbool (fun h5 => ?_) (fun h5 => ?_) | refine branch_split (fun h5 => ?_) (fun h5 => ?_)
            · have hlt : i < s.size := by omega
              have h0 : (0 : Int) ≤ (i : Int) := by omega
              have hc := u8_lt (s.data.toList.getD i 0)
              simp only [go_sem, Nat.reduceAdd, Nat.reduceSub, Nat.reduceMul, Nat.reduceEqDiff, Nat.reduceBEq, Nat.reduceBNe, Nat.reduceLT, Nat.reduceLeDiff, Int.reduceNeg, Int.reduceAdd, Int.reduceSub, Int.reduceMul, Int.reduceEq, Int.reduceLT, Int.reduceLE, Int.reduceToNat, reduceIte, reduceCtorEq, h0, h5, hlt]
              first | refine gj_ndec (fun h6 => ?_) (fun h6 => ?_) | refine gj_dec (fun h6 => ?_) (fun h6 => ?_) | refine gj_nbool (fun h6 => ?_) (fun h6 => ?_) | refine gj_bool (fun h6 => ?_) (fun h6 => ?_)
              · simp only [go_sem, Nat.reduceAdd, Nat.reduceSub, Nat.reduceMul, Nat.reduceEqDiff, Nat.reduceBEq, Nat.reduceBNe, Nat.reduceLT, Nat.reduceLeDiff, Int.reduceNeg, Int.reduceAdd, Int.reduceSub, Int.reduceMul, Int.reduceEq, Int.reduceLT, Int.reduceLE, Int.reduceToNat, reduceIte, reduceCtorEq, h6]
                exact ⟨_, _, ⟨rfl, rfl⟩, fun hn => by have := hn.dig hlt; omega⟩
              · simp only [go_sem, Nat.reduceAdd, Nat.reduceSub, Nat.reduceMul, Nat.reduceEqDiff, Nat.reduceBEq, Nat.reduceBNe, Nat.reduceLT, Nat.reduceLeDiff, Int.reduceNeg, Int.reduceAdd, Int.reduceSub, Int.reduceMul, Int.reduceEq, Int.reduceLT, Int.reduceLE, Int.reduceToNat, reduceIte, reduceCtorEq, h6, h0, hlt]
                refine ⟨by omega, ?_⟩
                first | refine branch_ndec (fun h7 => ?_) (fun h7 => ?_) | refine branch_dec (fun h7 => ?_) (fun h7 => ?_) | refine branch_nbool (fun h7 => ?_) (fun h7 => ?_) | refine branch_split (fun h7 => ?_) (fun h7 => ?_)
                · simp only [go_sem, Nat.reduceAdd, Nat.reduceSub, Nat.reduceMul, Nat.reduceEqDiff, Nat.reduceBEq, Nat.reduceBNe, Nat.reduceLT, Nat.reduceLeDiff, Int.reduceNeg, Int.reduceAdd, Int.reduceSub, Int.reduceMul, Int.reduceEq, Int.reduceLT, Int.reduceLE, Int.reduceToNat, reduceIte, reduceCtorEq]
                  exact ⟨_, _, ⟨rfl, rfl⟩, fun hn => by have := hn.dig hlt; omega⟩
                · simp only [go_sem, Nat.reduceAdd, Nat.reduceSub, Nat.reduceMul, Nat.reduceEqDiff, Nat.reduceBEq, Nat.reduceBNe, Nat.reduceLT, Nat.reduceLeDiff, Int.reduceNeg, Int.reduceAdd, Int.reduceSub, Int.reduceMul, Int.reduceEq, Int.reduceLT, Int.reduceLE, Int.reduceToNat, reduceIte, reduceCtorEq, h0, h5]
                  simp (disch := omega) only [wrap64, wrapU64, wrapU32, wrapU8]
                  have hinv : i + 1 ≤ s.size ∧ (0 ≤ v * 10 + (((s.data.toList.getD i 0).toNat : Int) - 48) ∧ v * 10 + (((s.data.toList.getD i 0).toNat : Int) - 48) < ((10 ^ (i + 1) : Nat) : Int)) ∧ (Num k s → v * 10 + (((s.data.toList.getD i 0).toNat : Int) - 48) = ((k / 10 ^ (s.size - (i + 1)) : Nat) : Int)) := ⟨by omega, ⟨by omega, by simp only [Nat.pow_succ]; omega⟩, fun hn => by
                    have p1 := i4 hn
                    have p2 := hn.step hlt
                    have p3 := hn.at' i hlt
                    rw [p2, p1, p3]
                    omega⟩
                  refine again_intro (i + 1, v * 10 + (((s.data.toList.getD i 0).toNat : Int) - 48)) hinv (by simp only; omega) ?_
                  simp only [go_sem, Nat.reduceAdd, Nat.reduceSub, Nat.reduceMul, Nat.reduceEqDiff, Nat.reduceBEq, Nat.reduceBNe, Nat.reduceLT, Nat.reduceLeDiff, Int.reduceNeg, Int.reduceAdd, Int.reduceSub, Int.reduceMul, Int.reduceEq, Int.reduceLT, Int.reduceLE, Int.reduceToNat, reduceIte, reduceCtorEq]
                  trivial
            · have e : i = s.size := by omega
              subst e
              have hv : Num k s → v = k := fun hn => by have := i4 hn; simpa using this
              simp only [go_sem, Nat.reduceAdd, Nat.reduceSub, Nat.reduceMul, Nat.reduceEqDiff, Nat.reduceBEq, Nat.reduceBNe, Nat.reduceLT, Nat.reduceLeDiff, Int.reduceNeg, Int.reduceAdd, Int.reduceSub, Int.reduceMul, Int.reduceEq, Int.reduceLT, Int.reduceLE, Int.reduceToNat, reduceIte, reduceCtorEq]
              refine ⟨by omega, ?_⟩
              first | refine gj_ndec (fun h8 => ?_) (fun h8 => ?_) | refine gj_dec (fun h8 => ?_) (fun h8 => ?_) | refine gj_nbool (fun h8 => ?_) (fun h8 => ?_) | refine gj_bool (fun h8 => ?_) (fun h8 => ?_)
              · simp only [go_sem, Nat.reduceAdd, Nat.reduceSub, Nat.reduceMul, Nat.reduceEqDiff, Nat.reduceBEq, Nat.reduceBNe, Nat.reduceLT, Nat.reduceLeDiff, Int.reduceNeg, Int.reduceAdd, Int.reduceSub, Int.reduceMul, Int.reduceEq, Int.reduceLT, Int.reduceLE, Int.reduceToNat, reduceIte, reduceCtorEq, h8]
                intro _
                first | refine branch_ndec (fun h9 => ?_) (fun h9 => ?_) | refine branch_dec (fun h9 => ?_) (fun h9 => ?_) | refine branch_nbool (fun h9 => ?_) (fun h9 => ?_) | refine branch_split (fun h9 => ?_) (fun h9 => ?_)
                · simp only [go_sem, Nat.reduceAdd, Nat.reduceSub, Nat.reduceMul, Nat.reduceEqDiff, Nat.reduceBEq, Nat.reduceBNe, Nat.reduceLT, Nat.reduceLeDiff, Int.reduceNeg, Int.reduceAdd, Int.reduceSub, Int.reduceMul, Int.reduceEq, Int.reduceLT, Int.reduceLE, Int.reduceToNat, reduceIte, reduceCtorEq]
                  exact ⟨_, _, ⟨rfl, rfl⟩, fun hn => by have := hn.hd; have := hn.at' 0 (by omega); simp only [Nat.sub_zero] at this; omega⟩
                · simp only [go_sem, Nat.reduceAdd, Nat.reduceSub, Nat.reduceMul, Nat.reduceEqDiff, Nat.reduceBEq, Nat.reduceBNe, Nat.reduceLT, Nat.reduceLeDiff, Int.reduceNeg, Int.reduceAdd, Int.reduceSub, Int.reduceMul, Int.reduceEq, Int.reduceLT, Int.reduceLE, Int.reduceToNat, reduceIte, reduceCtorEq]
                  exact ⟨_, _, ⟨rfl, rfl⟩, fun hn => ⟨hv hn, rfl⟩⟩
              · simp only [go_sem, Nat.reduceAdd, Nat.reduceSub, Nat.reduceMul, Nat.reduceEqDiff, Nat.reduceBEq, Nat.reduceBNe, Nat.reduceLT, Nat.reduceLeDiff, Int.reduceNeg, Int.reduceAdd, Int.reduceSub, Int.reduceMul, Int.reduceEq, Int.reduceLT, Int.reduceLE, Int.reduceToNat, reduceIte, reduceCtorEq, h8]
                exact ⟨_, _, ⟨rfl, rfl⟩, fun hn => ⟨hv hn, rfl⟩⟩
end Go.VS
