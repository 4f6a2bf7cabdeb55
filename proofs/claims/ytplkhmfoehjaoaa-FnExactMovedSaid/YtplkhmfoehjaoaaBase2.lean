/- What is known of the memory, as a list of facts; each fact speaks of some blocks, and stands as long as these lie untouched. For walks of straight-line functions. -/
import Derived.Test.YtplkhmfoehjaoaaBase
namespace Go.Proofs.Ytplkhmfoehjaoaa.Law
set_option linter.unusedVariables false
open Go.RowKit Go.Proofs.YtplkhmfoehjaoaaW.PrintWords Go.Proofs.Ytplkhmfoehjaoaa.Base

structure Fact where
  dom : Nat → Prop
  P : World → Prop
  fr : ∀ w w1, P w → (∀ k, dom k → k < w.heap.size → w1.heap[k]? = w.heap[k]?) → P w1
/-- A variable in memory. -/
def Fact.bx (g t : Nat) (cs : Array Value) : Fact := ⟨fun k => k = g, fun w => w.heap[g]? = some (.cells cs t (0, 0)), fun _ _ h hm => (hm g rfl (blk_lt h)).trans h⟩
def Ap (u v : Value) : Prop := ∀ k, u.ownBlock = some k → v.ownBlock ≠ some k
theorem ap_ne {u v : Value} (h : ∀ k, u.ownBlock = some k → some k ≠ v.ownBlock) : Ap u v := fun k hk e => h k hk e.symm
theorem Ap.symm {u v : Value} (h : Ap u v) : Ap v u := fun k hk e => h k e hk
theorem ap_types {α β : Type} {d : Kd α} {d' : Kd β} {e e' : Nat} {w : World} {b b' : Nat} {ok ok' : Nat → Prop} {u v : Value} {xs : List α} {ys : List β} (h : Kd.R d e w b ok u xs) (h' : Kd.R d' e' w b' ok' v ys) (hne : e ≠ e') : Ap u v := by
  intro k hk e1
  obtain ⟨_, h1⟩ := Kd.R_own h
  obtain ⟨_, h2⟩ := Kd.R_own h'
  rcases own_type_ne h1 h2 hne with h3 | h3
  · rw [hk] at h3; cases h3
  · exact h3 (hk.trans e1.symm)
/-- Rows of the call's own, in the blocks from lo to below hi. -/
def rowsFact1 (base lo hi : Nat) {α : Type} (d : Kd α) (e : Nat) (u : Value) (xs : List α) : Fact :=
  ⟨fun k => lo ≤ k ∧ k < hi, fun w => Kd.R d e w base (fun k => lo ≤ k ∧ k < hi) u xs, fun _ _ h hm => Kd.R_step h hm⟩
def rowsFact2 (base lo hi : Nat) {α β : Type} (d : Kd α) (e : Nat) (u : Value) (xs : List α) (d' : Kd β) (e' : Nat) (u' : Value) (xs' : List β) : Fact :=
  ⟨fun k => lo ≤ k ∧ k < hi, fun w => Kd.R d e w base (fun k => lo ≤ k ∧ k < hi) u xs ∧ Kd.R d' e' w base (fun k => lo ≤ k ∧ k < hi) u' xs' ∧ Ap u u', fun _ _ h hm => ⟨Kd.R_step h.1 hm, Kd.R_step h.2.1 hm, h.2.2⟩⟩
def All (L : List Fact) (w : World) : Prop := ∀ f ∈ L, f.P w
theorem All.nil (w : World) : All [] w := fun _ h => by cases h
theorem All.cons {L : List Fact} {w : World} {f : Fact} (h : All L w) (hf : f.P w) : All (f :: L) w := by
  intro g hg
  rcases List.mem_cons.1 hg with rfl | hg
  · exact hf
  · exact h g hg
theorem All.get {L : List Fact} {w : World} (h : All L w) (i : Nat) {f : Fact} (hf : L[i]? = some f) : f.P w := h f (List.mem_of_getElem? hf)
theorem All.erase {L : List Fact} {w : World} (h : All L w) (i : Nat) : All (L.eraseIdx i) w := fun f hf => h f (List.mem_of_mem_eraseIdx hf)
theorem All.below {L : List Fact} {w w1 : World} (h : All L w) (hb : Below w.heap.size w w1) : All L w1 := fun f hf => f.fr _ _ (h f hf) fun k _ hk => hb.block k hk
theorem All.alloc {L : List Fact} {w : World} (h : All L w) (cs : Array Value) (t : Nat) : All (.bx w.heap.size t cs :: L) (w.alloc (.cells cs t)) :=
  (h.below (below_alloc (Below.refl _ _) _)).cons (heap_alloc_new w _)
theorem All.kept {L : List Fact} {w w1 : World} {S : Nat → Prop} (h : All L w) (hk : Kept w w1 S) (hd : ∀ f ∈ L, ∀ k, f.dom k → ¬ S k) : All L w1 :=
  fun f hf => f.fr _ _ (h f hf) fun k hk' hlt => hk.2 k hlt (hd f hf k hk')
theorem box_cell {g t : Nat} {cs : Array Value} {w : World} (h : (Fact.bx g t cs).P w) (i : Nat) : w.cell? ⟨g, i, none⟩ = cs[i]? := blk_cell h i
theorem row1 {base lo hi : Nat} {α : Type} {d : Kd α} {e : Nat} {u : Value} {xs : List α} {w : World} (h : (rowsFact1 base lo hi d e u xs).P w) : Kd.R d e w base (fun k => lo ≤ k ∧ k < hi) u xs := h
theorem rows2 {base lo hi : Nat} {α β : Type} {d : Kd α} {e : Nat} {u : Value} {xs : List α} {d' : Kd β} {e' : Nat} {u' : Value} {xs' : List β} {w : World} (h : (rowsFact2 base lo hi d e u xs d' e' u' xs').P w) :
    Kd.R d e w base (fun k => lo ≤ k ∧ k < hi) u xs ∧ Kd.R d' e' w base (fun k => lo ≤ k ∧ k < hi) u' xs' ∧ Ap u u' := h
/-- A row that a call has made, told from a lower base, by its block alone, in a later world. -/
theorem R_later {α : Type} {d : Kd α} (hE : d.E = []) {e : Nat} {w w1 : World} {base base' : Nat} {ok ok' : Nat → Prop} {v : Value} {xs : List α} (h : Kd.R d e w base ok v xs) (hb : base' ≤ base) (hm : ∀ k, base ≤ k → k < w.heap.size → w1.heap[k]? = w.heap[k]?)
    (hok : ∀ k, base ≤ k → k < w.heap.size → ok' k) : Kd.R d e w1 base' ok' v xs :=
  Kd.R_lower (Kd.R_mono (Kd.R_step (R_tight hE (ok' := fun k => base ≤ k ∧ k < w.heap.size) h (fun k hk h1 h2 => ⟨h1, h2⟩)) (fun k hk _ => hm k hk.1 hk.2)) (fun k hk => hok k hk.1 hk.2)) hb
theorem All.make1 {L : List Fact} {W V : World} {base cur : Nat} (HS : All L W) (hb : Below W.heap.size W V) (hz : cur ≤ W.heap.size) (hbase : base ≤ W.heap.size) {α : Type} {d : Kd α} {e : Nat} {ok : Nat → Prop} {u : Value} {xs : List α} (hE : d.E = []) (h0 : Kd.R d e V W.heap.size ok u xs) :
    ∃ lo hi, cur ≤ lo ∧ lo ≤ hi ∧ hi ≤ V.heap.size ∧ All (rowsFact1 base lo hi d e u xs :: L) V :=
  ⟨W.heap.size, V.heap.size, hz, hb.size, Nat.le_refl _, (HS.below hb).cons (f := rowsFact1 _ _ _ _ _ _ _) (R_later hE h0 hbase (fun _ _ _ => rfl) (fun k h1 h2 => ⟨h1, h2⟩))⟩
theorem All.make2 {L : List Fact} {W V : World} {base cur : Nat} (HS : All L W) (hb : Below W.heap.size W V) (hz : cur ≤ W.heap.size) (hbase : base ≤ W.heap.size) {α β : Type} {d : Kd α} {e : Nat} {ok : Nat → Prop} {u : Value} {xs : List α} {d' : Kd β} {e' : Nat} {ok' : Nat → Prop} {u' : Value} {xs' : List β}
    (hE : d.E = []) (hE' : d'.E = []) (h0 : Kd.R d e V W.heap.size ok u xs) (h1 : Kd.R d' e' V W.heap.size ok' u' xs') (ha : Ap u u') :
    ∃ lo hi, cur ≤ lo ∧ lo ≤ hi ∧ hi ≤ V.heap.size ∧ All (rowsFact2 base lo hi d e u xs d' e' u' xs' :: L) V :=
  ⟨W.heap.size, V.heap.size, hz, hb.size, Nat.le_refl _, (HS.below hb).cons (f := rowsFact2 _ _ _ _ _ _ _ _ _ _ _) ⟨R_later hE h0 hbase (fun _ _ _ => rfl) (fun k h1 h2 => ⟨h1, h2⟩), R_later hE' h1 hbase (fun _ _ _ => rfl) (fun k h1 h2 => ⟨h1, h2⟩), ha⟩⟩
theorem All.mark1 {L L' : List Fact} {W V : World} {base lo hi : Nat} {α : Type} {d : Kd α} {e : Nat} {ok : Nat → Prop} {u : Value} {xs xs1 : List α} (HS : All L W) (i : Nat) (hg : L[i]? = some (rowsFact1 base lo hi d e u xs)) (hL : L.eraseIdx i = L')
    (hE : d.E = []) (h0 : Kd.R d e V base ok u xs1) (hk : Kept W V (fun k => u.ownBlock = some k)) (hd : ∀ f ∈ L', ∀ k, f.dom k → ¬ (lo ≤ k ∧ k < hi)) : All (rowsFact1 base lo hi d e u xs1 :: L') V := by
  have hf := row1 (HS.get i hg)
  refine ((hL ▸ HS.erase i).kept (hk.mono (S' := fun k => lo ≤ k ∧ k < hi) fun k hk => hf.1 k hk) hd).cons (f := rowsFact1 _ _ _ _ _ _ _) ?_
  exact R_tight hE h0 (fun k hk _ _ => hf.1 k hk)
theorem All.mark2 {L L' : List Fact} {W V : World} {base lo hi : Nat} {α β : Type} {d : Kd α} {e : Nat} {ok : Nat → Prop} {u : Value} {xs xs1 : List α} {d' : Kd β} {e' : Nat} {ok' : Nat → Prop} {u' : Value} {xs' xs1' : List β} (HS : All L W) (i : Nat) (hg : L[i]? = some (rowsFact2 base lo hi d e u xs d' e' u' xs')) (hL : L.eraseIdx i = L')
    (hE : d.E = []) (hE' : d'.E = []) (h0 : Kd.R d e V base ok u xs1) (h1 : Kd.R d' e' V base ok' u' xs1') (hk : Kept W V (fun k => u.ownBlock = some k ∨ u'.ownBlock = some k)) (hd : ∀ f ∈ L', ∀ k, f.dom k → ¬ (lo ≤ k ∧ k < hi)) : All (rowsFact2 base lo hi d e u xs1 d' e' u' xs1' :: L') V := by
  have hf := rows2 (HS.get i hg)
  refine ((hL ▸ HS.erase i).kept (hk.mono (S' := fun k => lo ≤ k ∧ k < hi) fun k hk => hk.elim (hf.1.1 k) (hf.2.1.1 k)) hd).cons (f := rowsFact2 _ _ _ _ _ _ _ _ _ _ _) ?_
  exact ⟨R_tight hE h0 (fun k hk _ _ => hf.1.1 k hk), R_tight hE' h1 (fun k hk _ _ => hf.2.1.1 k hk), hf.2.2⟩
/-! #### chains -/
theorem bcell {W w1 : World} (hb : Below W.heap.size W w1) : (∀ b o, b < W.heap.size → w1.cell? ⟨b, o, none⟩ = W.cell? ⟨b, o, none⟩) ∧ (∀ b o, b < W.heap.size → w1.frozen? ⟨b, o, none⟩ = W.frozen? ⟨b, o, none⟩) :=
  ⟨fun b o h => hb.cell (p := ⟨b, o, none⟩) h, fun b o h => hb.frozen (p := ⟨b, o, none⟩) h⟩
theorem bthen {w w1 w2 : World} (h : Below w.heap.size w w1) (k : Below w1.heap.size w1 w2) : Below w.heap.size w w2 := below_then h h.size k
theorem bset {w W : World} (h : Below w.heap.size w W) {a : Addr} (ha : w.heap.size ≤ a.block) (v : Value) : Below w.heap.size w (W.setCell a v) := h.setCell ha v
theorem bdrew {B : Nat} {w W : World} (h : Below B w W) : Below B w W.drew := below_drew h
theorem box_set {w : World} {g t : Nat} {cs : Array Value} (h : w.heap[g]? = some (.cells cs t (0, 0))) (i : Nat) (u : Value) : (w.setCell ⟨g, i, none⟩ u).heap[g]? = some (.cells (cs.setIfInBounds i u) t (0, 0)) := blk_set h i u
theorem alloc_size (v : World) (o : Obj) : (v.alloc o).heap.size = v.heap.size + 1 := by simp
theorem set_size (v : World) (a : Addr) (u : Value) : (v.setCell a u).heap.size = v.heap.size := by simp [World.setCell]
theorem drew_size (v : World) : v.drew.heap.size = v.heap.size := rfl
theorem All.late {L : List Fact} {e v : World} {F : Fact} (HS : All L e) (hb : Below e.heap.size e v) (hF : F.P v) (cs : Array Value) (t : Nat) : All (.bx v.heap.size t cs :: F :: L) (v.alloc (.cells cs t)) := ((HS.below hb).cons hF).alloc cs t
theorem All.early {L : List Fact} {e v W : World} {F : Fact} {g t : Nat} {cs : Array Value} (HS : All L e) (hb : Below e.heap.size e W) (hF : F.P v) (hW : ∀ k, k ≠ g → W.heap[k]? = v.heap[k]?) (hd : ∀ k, F.dom k → g < k) (hg : W.heap[g]? = some (.cells cs t (0, 0))) : All (.bx g t cs :: F :: L) W :=
  ((HS.below hb).cons (F.fr _ _ hF (fun k hk _ => hW k (by have := hd k hk; omega)))).cons (f := .bx g t cs) hg
theorem set_other (w : World) (g i : Nat) (u : Value) (k : Nat) (h : k ≠ g) : (w.setCell ⟨g, i, none⟩ u).heap[k]? = w.heap[k]? := Below.heap_setCell w ⟨g, i, none⟩ u k h
end Go.Proofs.Ytplkhmfoehjaoaa.Law
