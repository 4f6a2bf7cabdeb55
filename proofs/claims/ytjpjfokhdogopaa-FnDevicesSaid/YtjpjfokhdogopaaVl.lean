/- Device.lies: a range over slices.Backward: the iterator's contract, and the caller. -/
import Derived.Test.YtjpjfokhdogopaaProg
import Derived.KernelRfl
import Derived.RangeFuncNested
import Derived.RangeFuncBound
import Derived.RangeFuncCalls
import Derived.RangeFuncLeaves
import Derived.RangeFuncBox
import Derived.Shelf.Abstract
import Derived.Shelf.RegionOpen
import Derived.WalkKit
import Derived.OwnWalkIn
import Derived.TacticsInMore
import Derived.LoopNIn
import Derived.LoopIn
namespace Go.Proofs.Lies
open Go.RowKit Go.Shelf
/-- a fact, laid aside -/
structure Aside0 (p : Prop) : Prop where
  out : p
theorem blk_cell {w : World} {g : Nat} {t : TypeId} {cs : Array Value} (h : w.heap[g]? = some (.cells cs t (0, 0))) (i : Nat) : w.cell? ⟨g, i, none⟩ = cs[i]? := by
  simp [World.cell?, h]
theorem blk_frozen {w : World} {g : Nat} {t : TypeId} {cs : Array Value} (h : w.heap[g]? = some (.cells cs t (0, 0))) (i : Nat) : w.frozen? ⟨g, i, none⟩ = false := by
  simp [World.frozen?, h]
theorem blk_put {w : World} {g : Nat} {t : TypeId} {cs cs' : Array Value} (h : w.heap[g]? = some (.cells cs t (0, 0))) (i : Nat) (v : Value) (e : cs.setIfInBounds i v = cs') : (w.setCell ⟨g, i, none⟩ v).heap[g]? = some (.cells cs' t (0, 0)) := by
  subst e
  obtain ⟨hl, he⟩ := Array.getElem?_eq_some_iff.1 h
  simp [World.setCell, Array.getElem?_modify, h]
/-- a patch, as the walk sees it -/
structure S65 where
  f0 : Int
  f1 : ByteArray
def z65 : S65 := ⟨0, ByteArray.empty⟩
/-- where texts and patches lie -/
def C0 (w : World) (A : Option Addr) (l : List ByteArray) : Prop := 0 < l.length → ∃ b off, A = some ⟨b, off, none⟩ ∧ b < w.heap.size ∧ ∀ j, j < l.length → w.cell? ⟨b, off + j, none⟩ = some (.string (l.getD j ByteArray.empty))
def C1 (w : World) (A : Option Addr) (l : List S65) : Prop := 0 < l.length → ∃ b off, A = some ⟨b, off, none⟩ ∧ b < w.heap.size ∧ ∀ j, j < l.length → w.cell? ⟨b, off + j * 2, none⟩ = some (.int .i64 (l.getD j z65).f0) ∧ w.cell? ⟨b, off + j * 2 + 1, none⟩ = some (.string (l.getD j z65).f1)
set_option linter.unusedVariables false
set_option linter.unusedSimpArgs false
attribute [local go_sem] Oper.semAt_some
/-- What has come of the indexes m - 1, m - 2, .. when k rounds are over. -/
def ls_down (m k : Nat) : List Nat := (List.range k).map fun j => m - 1 - j
theorem ls_down_succ (m k : Nat) : ls_down m (k + 1) = ls_down m k ++ [m - 1 - k] := by simp [ls_down, List.range_succ]
theorem ls_down_length (m k : Nat) : (ls_down m k).length = k := by simp [ls_down]
def ls_enc (zs : List S65) (j : Nat) : Array Value := #[.int .i64 (j : Int), .agg #[.int .i64 (zs.getD j z65).f0, .string (zs.getD j z65).f1]]
set_option maxRecDepth 100000 in
set_option maxHeartbeats 4000000 in
theorem ls_iter (F : Fence) (n : Nat) (h50 : F.fn 50) (hro : F.round = none) (hn : 1 ≤ n) (l Bs n₀ b off len cap : Nat) (zs : List S65) (hreach : len ≤ 1000000) (hb : b < n₀) (hBn : Bs < n₀) (J Jx : List Nat → World → Prop)
    (hY : ∀ pre x W, J pre W → pre.length < len → YieldAt F (n - 1) Try.prog l (ls_enc zs x) W fun e W' =>
      (e = .returned (.bool true) ∧ J (pre ++ [x]) W' ∧ Below n₀ W W') ∨ (e = .returned (.bool false) ∧ Jx (pre ++ [x]) W'))
    (W : World) (hBs : W.cell? ⟨Bs, 0, none⟩ = some (.slice (some ⟨b, off, none⟩) len cap))
    (hc0 : ∀ j, j < len → W.cell? ⟨b, off + j * 2, none⟩ = some (.int .i64 (zs.getD j z65).f0)) (hc1 : ∀ j, j < len → W.cell? ⟨b, off + j * 2 + 1, none⟩ = some (.string (zs.getD j z65).f1)) (h0 : J [] W) :
    CallsIn F n Try.prog 50 #[.func (.yield l) #[] #[], .pointer (some ⟨Bs, 0, none⟩)] W fun e W' => (∃ v, e = .returned v) ∧
      ((∃ ys, ys = ls_down len len ∧ J ys W') ∨ (∃ pre, (∃ k, 1 ≤ k ∧ k ≤ len ∧ pre = ls_down len k) ∧ Jx pre W')) := by
  refine callsIn_of_wp Try.func50 rfl h50 ?_ hro
  simp only [Try.ntmps50, List.size_toArray, List.length_cons, List.length_nil, Nat.reduceAdd, Nat.reduceSub, Array.replicate_succ, Array.replicate_zero, List.push_toArray, List.append_toArray, List.nil_append, List.cons_append]
  gi_wp2
  gi_loopw [3] (fun i wr => ∃ k : Nat, k ≤ len ∧ i = .int .i64 ((len : Int) - 1 - k) ∧ J (ls_down len k) wr ∧ Below n₀ W wr)
    (fun i _ => (intOf i + 1).toNat)
  case atStart => exact ⟨0, Nat.zero_le _, by simp, h0, Below.refl _ _⟩
  case round =>
    obtain ⟨k, hk, rfl, hJs, hnx⟩ := hrel
    have hbs := (hnx.cell (p := ⟨Bs, 0, none⟩) hBn).trans hBs
    by_cases hlt : k < len
    · obtain ⟨j, hj⟩ : ∃ j : Nat, j = len - 1 - k := ⟨_, rfl⟩
      have hji : (len : Int) - 1 - k = (j : Int) := by omega
      have hcx0 := (hnx.cell (p := ⟨b, off + j * 2, none⟩) hb).trans (hc0 j (by omega))
      have hcx1 := (hnx.cell (p := ⟨b, off + j * 2 + 1, none⟩) hb).trans (hc1 j (by omega))
      obtain ⟨fn, tmps, assign, body, hy, hR⟩ := hY _ j wr hJs (by rw [ls_down_length]; exact hlt)
      have hd : ls_down len k ++ [j] = ls_down len (k + 1) := by rw [ls_down_succ, hj]
      rw [hd] at hR
      unfold ls_enc at hy
      rw [hji]
      generalize (zs.getD j z65).f0 = f0 at *
      generalize (zs.getD j z65).f1 = f1 at *
      have hjl : j < len := by omega
      have HJ := Aside0.mk hj
      have HK := Aside0.mk hk
      have HL := Aside0.mk hlt
      clear hj hji hk hlt hd hc0 hc1
      gi_wp2
      refine hR.mono ?_
      rintro e W3 (⟨rfl, hJ3, hk3⟩ | ⟨rfl, hJx3⟩)
      · gi_wp2
        go_roundw
        case rel => exact ⟨k + 1, HL.out, by have := HJ.out; have := HL.out; first | (congr 1; omega) | (simp; omega), hJ3, hnx.trans hk3⟩
        case measure => have := HJ.out; first | (simp [intOf]; done) | (simp [intOf]; omega)
      · gi_wp2
        refine bodyPost_ret (results_none rfl _ _ _) rfl ?_
        exact ⟨⟨_, rfl⟩, .inr ⟨_, ⟨k + 1, by omega, HL.out, rfl⟩, hJx3⟩⟩
    · obtain rfl : k = len := by omega
      have : (k : Int) - 1 - k = -1 := by omega
      rw [this]
      gi_wp2
      go_end0
      exact ⟨⟨_, rfl⟩, .inl ⟨_, rfl, hJs⟩⟩
set_option maxRecDepth 100000 in
set_option maxHeartbeats 1000000 in
theorem ls_iter_nil (F : Fence) (n : Nat) (h50 : F.fn 50) (hro : F.round = none) (l Bs : Nat) (A : Option Addr) (cap : Nat) (J : List Nat → World → Prop) (W : World) (hBs : W.cell? ⟨Bs, 0, none⟩ = some (.slice A 0 cap)) (h0 : J [] W) :
    CallsIn F n Try.prog 50 #[.func (.yield l) #[] #[], .pointer (some ⟨Bs, 0, none⟩)] W fun e W' => (∃ v, e = .returned v) ∧ J [] W' := by
  refine callsIn_of_wp Try.func50 rfl h50 ?_ hro
  simp only [Try.ntmps50, List.size_toArray, List.length_cons, List.length_nil, Nat.reduceAdd, Nat.reduceSub, Array.replicate_succ, Array.replicate_zero, List.push_toArray, List.append_toArray, List.nil_append, List.cons_append]
  gi_wp2
  gi_loopw [3] (fun i wr => i = .int .i64 (-1) ∧ J [] wr) (fun _ _ => 0)
  case atStart => exact ⟨rfl, h0⟩
  case round =>
    obtain ⟨rfl, hJs⟩ := hrel
    gi_wp2
    go_end0
    exact ⟨⟨_, rfl⟩, hJs⟩
theorem ls_stops (F : Fence) (n : Nat) (h50 : F.fn 50) (hro : F.round = none) (hn : 1 ≤ n) (Bs n₀ : Nat) (A : Option Addr) (cap : Nat) (zs : List S65) (hreach : zs.length ≤ 1000000) (w0 w : World) (hr : C1 w0 A zs) (hbw : Below w0.heap.size w0 w) (hs0 : w0.heap.size ≤ n₀) (hBs : Bs < n₀) (hn₀ : n₀ ≤ w.heap.size)
    (hc : w.cell? ⟨Bs, 0, none⟩ = some (.slice A zs.length cap)) :
    SeqStopsK F n Try.prog 50 #[.pointer (some ⟨Bs, 0, none⟩)] (ls_enc zs) (Below n₀) (fun ys => ys = ls_down zs.length zs.length) (fun pre => ∃ k, 1 ≤ k ∧ k ≤ zs.length ∧ pre = ls_down zs.length k) zs.length w := fun l J Jx W hW _ _ hY h0 => by
  have hc' := (hW.cell (p := ⟨Bs, 0, none⟩) (Nat.lt_of_lt_of_le hBs hn₀)).trans hc
  have hbW : Below w0.heap.size w0 W := hbw.trans (hW.mono (Nat.le_trans hs0 hn₀))
  by_cases hp : 0 < zs.length
  · obtain ⟨b, off, rfl, hbl, hcs⟩ := hr hp
    have g0 : ∀ j, j < zs.length → W.cell? ⟨b, off + j * 2, none⟩ = some (.int .i64 (zs.getD j z65).f0) := fun j hj => (hbW.cell (p := ⟨b, off + j * 2, none⟩) hbl).trans (hcs j hj).1
    have g1 : ∀ j, j < zs.length → W.cell? ⟨b, off + j * 2 + 1, none⟩ = some (.string (zs.getD j z65).f1) := fun j hj => (hbW.cell (p := ⟨b, off + j * 2 + 1, none⟩) hbl).trans (hcs j hj).2
    exact ls_iter F n h50 hro hn l Bs n₀ b off zs.length cap zs hreach (Nat.lt_of_lt_of_le hbl hs0) hBs J Jx hY W hc' g0 g1 h0
  · have : zs = [] := List.eq_nil_of_length_eq_zero (by omega)
    subst this
    exact (ls_iter_nil F n h50 hro l Bs A cap J W hc' h0).mono fun e W' ⟨he, hj⟩ => ⟨he, .inl ⟨_, rfl, hj⟩⟩
set_option maxHeartbeats 1000000 in
theorem ls_seq (F : Fence) (n : Nat) (h47 : F.fn 47) (hro : F.round = none) (a : Option Addr) (len cap : Nat) (w : World) :
    CallsIn F n Try.prog 47 #[.slice a len cap] w fun e w' => e = .returned (.func (.func 50) #[] #[.pointer (some ⟨w.heap.size, 0, none⟩)]) ∧ w' = w.alloc (.cells #[.slice a len cap] 25) := by
  refine callsIn_of_wp Try.func47 rfl h47 ?_ hro
  simp only [Try.ntmps47, List.size_toArray, List.length_cons, List.length_nil, Nat.reduceAdd, Nat.reduceSub, Array.replicate_succ, Array.replicate_zero, List.push_toArray, List.append_toArray, List.nil_append, List.cons_append]
  gi_wp2
  go_ret
  exact ⟨rfl, rfl⟩
def ls_step (a : Int) (s : Option ByteArray) (p : S65) : Option ByteArray := if p.f0 = a then some p.f1 else s
theorem ls_skip (a : Int) : ∀ (l : List S65) (s : Option ByteArray), (∀ p ∈ l, p.f0 ≠ a) → l.foldl (ls_step a) s = s
  | [], _, _ => rfl
  | p :: l, s, h => by
    rw [List.foldl_cons, show ls_step a s p = s from if_neg (h p (by simp))]
    exact ls_skip a l s (fun q hq => h q (by simp [hq]))
theorem ls_hit (a : Int) (zs : List S65) (j : Nat) (hj : j < zs.length) (hit : (zs.getD j z65).f0 = a) (rest : ∀ i, j < i → i < zs.length → (zs.getD i z65).f0 ≠ a) : zs.foldl (ls_step a) none = some (zs.getD j z65).f1 := by
  have e : zs = zs.take j ++ zs[j] :: zs.drop (j + 1) := by rw [← List.drop_eq_getElem_cons hj, List.take_append_drop]
  have eg : zs.getD j z65 = zs[j] := by simp [List.getD, List.getElem?_eq_getElem hj]
  rw [eg] at hit ⊢
  refine (congrArg (List.foldl (ls_step a) none) e).trans ?_
  rw [List.foldl_append, List.foldl_cons, show ls_step a _ zs[j] = some zs[j].f1 from if_pos hit]
  refine ls_skip a _ _ (fun p hp => ?_)
  obtain ⟨i, hi, rfl⟩ := List.getElem_of_mem hp
  rw [List.length_drop] at hi
  rw [List.getElem_drop]
  have := rest (j + 1 + i) (by omega) (by omega)
  rwa [show zs.getD (j + 1 + i) z65 = zs[j + 1 + i] from by simp [List.getD, List.getElem?_eq_getElem (show j + 1 + i < zs.length by omega)]] at this
def impl_Device_lies.f (l0 : List ByteArray) (l1 : List S65) (a : Int) : Option ByteArray :=
  match l1.foldl (ls_step a) none with
  | some s => some s
  | none => if 0 ≤ a then (if a < (l0.length : Int) then some (l0.getD a.toNat ByteArray.empty) else none) else none
theorem ls_blk {W W' : World} {B : Nat} {cs : Array Value} {t : TypeId} {row : Option Nat} (h : W.heap[B]? = some (.cells cs t (0, 0))) (hg : W.grownBy W' row) (hr : ∀ r, row = some r → ∃ o : Obj, W.heap[r]? = some o ∧ o.isCells = false) : W'.heap[B]? = some (.cells cs t (0, 0)) :=
  (hg.block B (Array.getElem?_eq_some_iff.1 h).1 (fun e => by obtain ⟨o, ho, hc⟩ := hr B e.symm; rw [h] at ho; cases ho; cases hc)).trans h
set_option maxRecDepth 100000 in
set_option maxHeartbeats 8000000 in
theorem ls_lies_in (F : Fence) (n : Nat) (h36 : F.fn 36) (h47 : F.fn 47) (h50 : F.fn 50) (hro : F.round = none) (hn : 3 ≤ n) (A0 : Option Addr) (c0 : Nat) (l0 : List ByteArray) (A1 : Option Addr) (c1 : Nat) (l1 : List S65) (a : Int) (r : ByteArray) (w : World)
    (hr0 : C0 w A0 l0) (hr1 : C1 w A1 l1) (hreach : l1.length ≤ 1000000) (h : impl_Device_lies.f l0 l1 a = some r) :
    CallsIn F n Try.prog 36 #[.agg #[.slice A0 l0.length c0, .slice A1 l1.length c1], .int .i64 a] w fun e W' => e = .returned (.string r) ∧ Below w.heap.size w W' := by
  have h1 : 1 ≤ n := by omega
  refine callsIn_of_wp_marks Try.func36 rfl h36 ?_ hro
  simp only [Try.ntmps36, List.size_toArray, List.length_cons, List.length_nil, Nat.reduceAdd, Nat.reduceSub, Array.replicate_succ, Array.replicate_zero, List.push_toArray, List.append_toArray, List.nil_append, List.cons_append]
  gi_wp2_with (gi_at_call 47; refine (ls_seq F (n - 1) h47 hro _ _ _ _).mono ?_; rintro e w' ⟨rfl, rfl⟩)
  obtain ⟨W0, hW0⟩ : ∃ W0, (((w.alloc (Obj.cells #[Value.slice A0 l0.length c0, Value.slice A1 l1.length c1] 27)).alloc (Obj.cells #[Value.int IntKind.i64 a] 2)).alloc (Obj.cells #[Value.string { data := #[] }] 9)).alloc (Obj.cells #[Value.slice A1 l1.length c1] 25) = W0 := ⟨_, rfl⟩
  have hsz : W0.heap.size = w.heap.size + 4 := by rw [← hW0]; simp
  have bD : W0.heap[w.heap.size]? = some (.cells #[Value.slice A0 l0.length c0, Value.slice A1 l1.length c1] 27 (0, 0)) := by
    rw [← hW0]
    exact (((Below.heap_alloc _ _ _ (by first | (simp; done) | (simp; omega))).trans (Below.heap_alloc _ _ _ (by first | (simp; done) | (simp; omega)))).trans (Below.heap_alloc _ _ _ (by first | (simp; done) | (simp; omega)))).trans (World.alloc_heap_new w _)
  have bA : W0.heap[w.heap.size + 1]? = some (.cells #[Value.int IntKind.i64 a] 2 (0, 0)) := by
    rw [← hW0]
    refine ((Below.heap_alloc _ _ _ (by first | (simp; done) | (simp; omega))).trans (Below.heap_alloc _ _ _ (by first | (simp; done) | (simp; omega)))).trans ?_
    have := World.alloc_heap_new (w.alloc (Obj.cells #[Value.slice A0 l0.length c0, Value.slice A1 l1.length c1] 27)) (Obj.cells #[Value.int IntKind.i64 a] 2)
    rwa [World.size_alloc] at this
  have bR : W0.heap[w.heap.size + 1 + 1]? = some (.cells #[Value.string { data := #[] }] 9 (0, 0)) := by
    rw [← hW0]
    refine (Below.heap_alloc _ _ _ (by simp)).trans ?_
    have := World.alloc_heap_new ((w.alloc (Obj.cells #[Value.slice A0 l0.length c0, Value.slice A1 l1.length c1] 27)).alloc (Obj.cells #[Value.int IntKind.i64 a] 2)) (Obj.cells #[Value.string { data := #[] }] 9)
    rwa [World.size_alloc, World.size_alloc] at this
  have bN : W0.cell? ⟨w.heap.size + 1 + 1 + 1, 0, none⟩ = some (.slice A1 l1.length c1) := by
    rw [← hW0]
    have := World.alloc_heap_new (((w.alloc (Obj.cells #[Value.slice A0 l0.length c0, Value.slice A1 l1.length c1] 27)).alloc (Obj.cells #[Value.int IntKind.i64 a] 2)).alloc (Obj.cells #[Value.string { data := #[] }] 9)) (Obj.cells #[Value.slice A1 l1.length c1] 25)
    rw [World.size_alloc, World.size_alloc, World.size_alloc] at this
    exact (blk_cell this 0).trans rfl
  have hB0 : Below w.heap.size w W0 := by
    rw [← hW0]
    exact ((((Below.refl _ w).alloc (Nat.le_refl _) _).alloc (by first | (simp; done) | (simp; omega)) _).alloc (by first | (simp; done) | (simp; omega)) _).alloc (by first | (simp; done) | (simp; omega)) _
  rw [hW0]
  clear hW0
  refine wpIn_rangeFunc_ownH hro h1 (gf := 50) (lb := #[.pointer (some ⟨w.heap.size + 1 + 1 + 1, 0, none⟩)]) rfl h50 (enters_of Try.func50 (by kernel_rfl) rfl)
    (ls_stops F (n - 1) h50 hro (by omega) (w.heap.size + 1 + 1 + 1) (w.heap.size + 4) A1 c1 l1 hreach w W0 hr1 hB0 (by omega) (by omega) (by omega) bN) belowK_t (belowK_b (by omega)) (Below.refl _ _) (fun _ => rfl)
    (fun pre W => ((∀ i ∈ pre, (l1.getD i z65).f0 ≠ a) ∧ W.heap[w.heap.size + 1 + 1]? = some (.cells #[Value.string { data := #[] }] 9 (0, 0)) ∧ W.heap[w.heap.size + 1]? = some (.cells #[Value.int IntKind.i64 a] 2 (0, 0)) ∧ W.heap[w.heap.size]? = some (.cells #[Value.slice A0 l0.length c0, Value.slice A1 l1.length c1] 27 (0, 0)) ∧ w.heap.size + 4 ≤ W.heap.size) ∧ Below w.heap.size w W)
    (fun c pre W => (c = .ret ∧ ∃ ini j, pre = ini ++ [j] ∧ (∀ i ∈ ini, (l1.getD i z65).f0 ≠ a) ∧ (l1.getD j z65).f0 = a ∧ W.heap[w.heap.size + 1 + 1]? = some (.cells #[Value.string (l1.getD j z65).f1] 9 (0, 0))) ∧ Below w.heap.size w W)
    (OwnFrom.and (Own.from (fun s X Y row hs hg hr => ⟨hs.1, ls_blk hs.2.1 hg hr, ls_blk hs.2.2.1 hg hr, ls_blk hs.2.2.2.1 hg hr, Nat.le_trans hs.2.2.2.2 hg.size⟩) _) (ownFrom_below (Nat.le_refl _) (by omega)))
    (fun c => OwnFrom.and (Own.from (fun s X Y row hs hg hr => by obtain ⟨hc, ini, j, e1, e2, e3, e4⟩ := hs; exact ⟨hc, ini, j, e1, e2, e3, ls_blk e4 hg hr⟩) _) (ownFrom_below (Nat.le_refl _) (by omega)))
    ⟨⟨by simp, bR, bA, bD, by omega⟩, hB0⟩
    (fun x a' W => ∃ Bx, w.heap.size + 4 ≤ Bx ∧ W.heap[Bx]? = some (.cells #[Value.int IntKind.i64 (l1.getD x z65).f0, Value.string (l1.getD x z65).f1] 43 (0, 0)) ∧ a' = { tmps := #[Value.agg #[Value.slice A0 l0.length c0, Value.slice A1 l1.length c1], Value.int IntKind.i64 a, Value.pointer (some { block := w.heap.size, off := 0 }), Value.pointer (some { block := w.heap.size + 1, off := 0 }), Value.pointer (some { block := w.heap.size + 1 + 1, off := 0 }), undef, Value.pointer (some ⟨Bx, 0, none⟩), Value.pointer (some { block := w.heap.size, off := 1 }), Value.slice A1 l1.length c1, Value.func (Fn.func 50) #[] #[Value.pointer (some { block := w.heap.size + 1 + 1 + 1, off := 0 })], Value.int IntKind.i64 (x : Int), Value.agg #[Value.int IntKind.i64 (l1.getD x z65).f0, Value.string (l1.getD x z65).f1], undef, undef, undef, undef, undef, undef, undef, undef, undef, undef, undef], defers := [] })
    (fun x a' _ X Y row hs hg hr => by obtain ⟨Bx, g1, g2, g3⟩ := hs; exact ⟨Bx, g1, ls_blk g2 hg (fun r e => (hr r e).2), g3⟩)
    ?assign ?body ?done ?stop
  case assign =>
    rintro l pre x W K ⟨⟨i0, i1, i2, i3, i4⟩, hB1⟩ hK
    unfold ls_enc
    generalize (l1.getD x z65).f0 = f0 at *
    generalize (l1.getD x z65).f1 = f1 at *
    gi_wp2
    have lt := fun {B : Nat} {o : Obj} (h : W.heap[B]? = some o) => (Array.getElem?_eq_some_iff.1 h).1
    exact hK _ _ ((KeepsOthers.alloc _ _).from _) ((Below.refl _ W).alloc i4 _) ⟨⟨i0, (Below.heap_alloc W _ _ (lt i1)).trans i1, (Below.heap_alloc W _ _ (lt i2)).trans i2, (Below.heap_alloc W _ _ (lt i3)).trans i3, by simp; omega⟩, hB1.alloc hB1.size _⟩ ⟨W.heap.size, i4, World.alloc_heap_new W _, rfl⟩
  case body =>
    rintro l pre x a' W hl ⟨rr, hrr⟩ ⟨⟨i0, i1, i2, i3, i4⟩, hB1⟩ ⟨Bx, hBx, bX, rfl⟩ hlt
    have cX0 : W.cell? ⟨Bx, 0, none⟩ = some (.int .i64 (l1.getD x z65).f0) := (blk_cell bX 0).trans rfl
    have cX1 : W.cell? ⟨Bx, 1, none⟩ = some (.string (l1.getD x z65).f1) := (blk_cell bX 1).trans rfl
    have cA : W.cell? ⟨w.heap.size + 1, 0, none⟩ = some (.int .i64 a) := (blk_cell i2 0).trans rfl
    have cR : W.cell? ⟨w.heap.size + 1 + 1, 0, none⟩ = some (.string { data := #[] }) := (blk_cell i1 0).trans rfl
    have fR := blk_frozen i1 0
    by_cases hfa : (l1.getD x z65).f0 = a
    · have hset := blk_put i1 0 (.string (l1.getD x z65).f1) rfl
      have HS := Aside0.mk hset
      have HF := Aside0.mk hfa
      clear hset
      rw [hfa] at cX0
      gi_wp2
      exact ⟨(KeepsOthers.setCell _ _ _).from _, ⟨rfl, pre, x, rfl, i0, HF.out, HS.out⟩, hB1.setCell (p := ⟨w.heap.size + 1 + 1, 0, none⟩) (by simp; omega) _⟩
    · have HF := Aside0.mk hfa
      generalize (l1.getD x z65).f0 = f0 at cX0 hfa bX
      gi_wp2
      replace hfa := HF.out
      exact ⟨(KeepsOthers.refl _).from _, Below.refl _ _, ⟨fun i hi => (List.mem_append.1 hi).elim (i0 i) (fun e => by simp at e; subst e; exact hfa), i1, i2, i3, i4⟩, hB1⟩
  case done =>
    rintro D ys W hD rfl ⟨⟨i0, i1, i2, i3, i4⟩, hB1⟩ hK
    have hnone : l1.foldl (ls_step a) none = none := ls_skip a l1 none (fun p hp => by
      obtain ⟨i, hi, rfl⟩ := List.getElem_of_mem hp
      have := i0 i (by simp only [ls_down, List.mem_map, List.mem_range]; exact ⟨l1.length - 1 - i, by omega, by omega⟩)
      rwa [show l1.getD i z65 = l1[i] from by simp [List.getD, List.getElem?_eq_getElem hi]] at this)
    unfold impl_Device_lies.f at h
    rw [hnone] at h
    simp only at h
    by_cases ha : 0 ≤ a
    case neg => rw [if_neg ha] at h; cases h
    rw [if_pos ha] at h
    by_cases hal : a < (l0.length : Int)
    case neg => rw [if_neg hal] at h; cases h
    rw [if_pos hal] at h
    have hr := Option.some.inj h
    obtain ⟨b0, off0, rfl, hbl0, hcs0⟩ := hr0 (by omega)
    have hv : W.cell? ⟨b0, off0 + a.toNat, none⟩ = some (.string (l0.getD a.toNat ByteArray.empty)) := (hB1.cell (p := ⟨b0, off0 + a.toNat, none⟩) hbl0).trans (hcs0 a.toNat (by omega))
    rw [hr] at hv
    have cA : W.cell? ⟨w.heap.size + 1, 0, none⟩ = some (.int .i64 a) := (blk_cell i2 0).trans rfl
    have cD : W.cell? ⟨w.heap.size, 0, none⟩ = some (.slice (some ⟨b0, off0, none⟩) l0.length c0) := (blk_cell i3 0).trans rfl
    have cR : W.cell? ⟨w.heap.size + 1 + 1, 0, none⟩ = some (.string { data := #[] }) := (blk_cell i1 0).trans rfl
    have fR := blk_frozen i1 0
    have hset := blk_put i1 0 (.string r) rfl
    clear hcs0 h hr i0 hnone
    gi_wp2
    have hK' := (KeepsOthers.setCell W ⟨w.heap.size + 1 + 1, 0, none⟩ (.string r)).same D _ hK rfl
    have hB2 := hB1.setCell (p := ⟨w.heap.size + 1 + 1, 0, none⟩) (by simp; omega) (.string r)
    refine ⟨by simp, .inl ⟨_, _, rfl, run_takeDeferred hK', ?_⟩⟩
    have hc5 := cell_kept (World.cell?_setCell_same' W ⟨w.heap.size + 1 + 1, 0, none⟩ (.string r) (by rw [cR]; rfl)) (grownBy_putObj' _ D (.deferred none)) (fun r e => by cases e; exact ⟨_, hK', rfl⟩)
    refine ⟨.string r, ?_, rfl, hB2.trans (belowK_b (w := w) (Nat.le_refl _) _ D _ _ (by omega) hK' rfl rfl)⟩
    simp [results, Try.f36, go_sem, hc5]
  case stop =>
    rintro D c pre W hD hS ⟨⟨rfl, ini, j, hpre, e2, e3, e4⟩, hB1⟩ hK
    have hj : j < l1.length ∧ ∀ i, j < i → i < l1.length → i ∈ ini := by
      obtain ⟨k, k1, k2, k3⟩ := hS
      obtain ⟨k, rfl⟩ : ∃ q, k = q + 1 := ⟨k - 1, by omega⟩
      rw [ls_down_succ] at k3
      rw [k3] at hpre
      obtain ⟨g1, g2⟩ := List.append_inj' hpre rfl
      simp at g2
      refine ⟨by omega, fun i hi1 hi2 => ?_⟩
      rw [← g1]
      simp only [ls_down, List.mem_map, List.mem_range]
      exact ⟨l1.length - 1 - i, by omega, by omega⟩
    have hhit := ls_hit a l1 j hj.1 e3 (fun i g1 g2 => e2 i (hj.2 i g1 g2))
    unfold impl_Device_lies.f at h
    rw [hhit] at h
    have hr := Option.some.inj h
    rw [hr] at e4
    have cR : W.cell? ⟨w.heap.size + 1 + 1, 0, none⟩ = some (.string r) := (blk_cell e4 0).trans rfl
    clear h hr hhit e3 e2 hpre hS hj
    gi_wp2
    refine ⟨by simp, .inl ⟨_, _, rfl, run_takeDeferred hK, ?_⟩⟩
    have hc5 := cell_kept cR (grownBy_putObj' _ D (.deferred none)) (fun r e => by cases e; exact ⟨_, hK, rfl⟩)
    refine ⟨.string r, ?_, rfl, hB1.trans (belowK_b (w := w) (Nat.le_refl _) _ D _ _ (by omega) hK rfl rfl)⟩
    simp [results, Try.f36, go_sem, hc5]
/-- THE CONTRACT, in the print's form. -/
theorem impl_Device_lies.calls (A0_0 : Option Addr) (c0_0 : Nat) (l0_0 : List ByteArray) (A0_1 : Option Addr) (c0_1 : Nat) (l0_1 : List S65) (a1 : Int) (r : ByteArray) (w : World)
    (hr0_0 : C0 w A0_0 l0_0) (hr0_1 : C1 w A0_1 l0_1) (h : impl_Device_lies.f l0_0 l0_1 a1 = some r) (hreach : l0_1.length ≤ 1000000) :
    Calls Try.prog 36 #[.agg #[.slice A0_0 l0_0.length c0_0, .slice A0_1 l0_1.length c0_1], .int .i64 a1] w fun e w' => e = .returned (.string r) ∧ Below w.heap.size w w' :=
  (callsIn_wide (n := 3)).1 (ls_lies_in Fence.wide 3 trivial trivial trivial rfl (by omega) A0_0 c0_0 l0_0 A0_1 c0_1 l0_1 a1 r w hr0_0 hr0_1 hreach h)
end Go.Proofs.Lies
