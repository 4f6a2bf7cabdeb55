/- A parameter opened at any type without pointers and maps: what the walk's rows ask of it, and the sizes that its weights allow. -/
import Derived.Test.YtplkhmfoehjaoaaWWords
import Derived.Test.YtplkhmfoehjaoaaWMore
import Derived.Test.YtplkhmfoehjaoaaWKept
import Derived.WalkKit
import Derived.SizedLaws
import Derived.ChangeSlices
import Derived.ChangeArms
import Derived.Deep.Slices
namespace Go.Proofs.Ytplkhmfoehjaoaa.Open
open Go.RowKit Go.Proofs.YtplkhmfoehjaoaaW.PrintWords Go.ChangeShapes Go.WideShapes Go.Deep
set_option linter.unusedVariables false
variable {P : Program} {α β : Type}

/-- At the type t, cells that are read and weigh no more than a machine reaches hold an x that d tells of. -/
structure Opens (P : Program) (t : TypeId) (d : Kd α) (good : α → Prop) : Prop where
  out : ∀ {H : Type} (enc : TypeId × Value → H) (W : World) (n : Nat) (cs : List Value) (y : DataW H × List MemPlace),
    DataW.trod enc P W 0 (fun _ => true) true n t cs = some y → (∀ m ∈ y.1.weights P t, m ≤ reachBytes) → ∃ x, d.K W x cs ∧ good x
theorem opens_int {t : TypeId} {k : IntKind} (ht : P.underlying t = some (.int k)) : Opens P t (Kd.int k) (fun x => (Lit.int k x).wf = true) := by
  constructor
  intro H enc W n cs y h _
  obtain ⟨z, rfl, _, hw⟩ := DataW.trod_int ht h
  exact ⟨z, rfl, hw⟩
theorem opens_bool {t : TypeId} (ht : P.underlying t = some .bool) : Opens P t Kd.bool (fun _ => True) := by
  constructor
  intro H enc W n cs y h _
  obtain ⟨z, rfl, _⟩ := DataW.trod_bool ht h
  exact ⟨z, rfl, trivial⟩
theorem opens_string {t : TypeId} (ht : P.underlying t = some .string) : Opens P t Kd.string (fun x => x.size ≤ 140737488351232) := by
  constructor
  intro H enc W n cs y h hw
  obtain ⟨s, rfl, rfl, _⟩ := DataW.trod_string ht h
  refine ⟨s, rfl, ?_⟩
  have := hw s.data.toList.length (by simp [DataW.weights])
  have h2 : s.size ≤ reachBytes := by simpa using this
  exact h2
theorem weights_all_mem {H : Type} {e : TypeId} : ∀ {l : List (DataW H)} {d : DataW H}, d ∈ l → ∀ m ∈ d.weights P e, m ∈ DataW.weightsAll P e l
  | d0 :: l, d, hd, m, hm => by
    simp only [DataW.weightsAll, List.mem_append]
    rcases List.mem_cons.mp hd with rfl | h
    · exact .inl hm
    · exact .inr (weights_all_mem h m hm)
theorem opens_slice (e' b : Nat) {t e : TypeId} {d : Kd α} {good : α → Prop} (ht : P.underlying t = some (.slice e)) (hc : P.cellsOf e = d.sz) (hb : P.bytesOf e = b) (he : Opens P e d good) :
    Opens P t (Kd.slice e' d) (fun l => l.length * b ≤ 140737488351232 ∧ ∀ x ∈ l, good x) := by
  subst hb
  constructor
  intro H enc W n cs y h hw
  rcases open_slice ht h with ⟨rfl, rfl⟩ | ⟨a, len, cap, m, k, D, Pl, rfl, _, hl, hm, hmm, rfl, hx⟩
  · exact ⟨[], ⟨none, 0, rfl, Nat.le_refl _, ⟨rfl, by simp, fun h => absurd h (by simp)⟩⟩, by simp, by simp⟩
  · simp only [if_true] at hmm
    subst hmm
    have each : ∀ i, i < len → ∃ x : α, good x ∧ ∃ c, c.length = d.sz ∧ d.K W x c ∧ ∀ j u, c[j]? = some u → W.cell? (a.add (i * d.sz + j)) = some u := by
      intro i hi
      obtain ⟨cs', h1, h2⟩ := hx i (by omega)
      obtain ⟨x, hk, hg⟩ := he.out enc W k cs' (D i, Pl i) h2 (fun z hz => hw z (by
        simp only [DataW.weights, ht]
        refine List.mem_cons_of_mem _ (List.mem_append_left _ (weights_all_mem (d := D i) ?_ z hz))
        exact List.mem_map.mpr ⟨i, List.mem_range.mpr hi, rfl⟩))
      refine ⟨x, hg, cs', d.K_len hk, hk, fun j u hj => ?_⟩
      rw [hc] at h1
      obtain ⟨_, hln, hcell⟩ := World.cells?_some h1
      have hj' := (List.getElem?_eq_some_iff.mp hj).1
      have := hcell j (by omega)
      rw [Addr.add_add, hj] at this
      exact this
    have hN : ∃ l : List α, l.length = len ∧ ∀ i (hi : i < l.length), good l[i] ∧ ∃ c, c.length = d.sz ∧ d.K W l[i] c ∧ ∀ j u, c[j]? = some u → W.cell? (a.add (i * d.sz + j)) = some u := by
      clear hx hw hm hl h
      induction len with
      | zero => exact ⟨[], rfl, fun i hi => absurd hi (by simp)⟩
      | succ len ih =>
        obtain ⟨l, hl, h⟩ := ih (fun i hi => each i (by omega))
        obtain ⟨x, hg, hx⟩ := each len (by omega)
        refine ⟨l ++ [x], by simp [hl], fun i hi => ?_⟩
        by_cases e : i < l.length
        · rw [List.getElem_append_left e]
          exact h i e
        · have : i = l.length := by simp at hi; omega
          subst this
          rw [List.getElem_append_right (Nat.le_refl _)]
          simp only [Nat.sub_self, List.getElem_cons_zero]
          rw [hl]
          exact ⟨hg, hx⟩
    obtain ⟨l, rfl, hall⟩ := hN
    refine ⟨l, ⟨some a, m, rfl, hl, ⟨rfl, ?_, fun _ => ⟨a, rfl, fun j p hj => ?_⟩⟩⟩, ?_, fun x hx => ?_⟩
    · have : maxLen ≤ 9223372036854775807 := by decide
      omega
    · obtain ⟨hj', rfl⟩ := List.getElem?_eq_some_iff.mp hj
      exact (hall j hj').2
    · have := hw ((l.length + (m - l.length)) * P.bytesOf e) (by simp [DataW.weights, ht])
      exact Nat.le_trans (Nat.mul_le_mul_right _ (by omega)) this
    · obtain ⟨i, hi, rfl⟩ := List.getElem_of_mem hx
      exact (hall i hi).1
/-- The fields of a struct from the cell 'off' on. -/
structure OpensEach (P : Program) (fs : List Field) (off : Nat) (d : Kd α) (good : α → Prop) : Prop where
  out : ∀ {H : Type} (enc : TypeId × Value → H) (W : World) (n : Nat) (cs : List Value) (ys : List (DataW H × List MemPlace)), cs.length = off + d.sz → ys.length = fs.length →
    (∀ (i : Nat) (f : Field), fs[i]? = some f → DataW.trod enc P W 0 (fun _ => true) true n f.type ((cs.drop f.offset).take (P.cellsOf f.type)) = ys[i]?) →
    (∀ m ∈ DataW.weightsEach P (fs.map (·.type)) (ys.map (·.1)), m ≤ reachBytes) → ∃ x, d.K W x (cs.drop off) ∧ good x
theorem opens_last {f : Field} {off : Nat} {d : Kd α} {good : α → Prop} (ho : f.offset = off) (hc : P.cellsOf f.type = d.sz) (h : Opens P f.type d good) : OpensEach P [f] off d good := by
  constructor
  intro H enc W n cs ys hl hy hr hw
  match ys, hy with
  | [y], _ =>
    have h0 := hr 0 f rfl
    rw [ho, hc, List.take_of_length_le (by simp; omega)] at h0
    exact h.out enc W n _ y h0 (fun m hm => hw m (by simpa [DataW.weightsEach] using hm))
theorem opens_more {f : Field} {fs : List Field} {off off' : Nat} {a : Kd α} {b : Kd β} {ga : α → Prop} {gb : β → Prop} (ho : f.offset = off) (hc : P.cellsOf f.type = a.sz) (hoff : off' = off + a.sz) (h : Opens P f.type a ga)
    (hs : OpensEach P fs off' b gb) : OpensEach P (f :: fs) off (Kd.pair a b) (fun x => ga x.1 ∧ gb x.2) := by
  constructor
  intro H enc W n cs ys hl hy hr hw
  have hl' : cs.length = off + (a.sz + b.sz) := hl
  match ys, hy with
  | y :: ys, hy =>
    have h0 := hr 0 f rfl
    rw [ho, hc] at h0
    obtain ⟨x, hx, gx⟩ := h.out enc W n _ y h0 (fun m hm => hw m (by simp [DataW.weightsEach]; exact .inl hm))
    obtain ⟨z, hz, gz⟩ := hs.out enc W n cs ys (by omega) (by simpa using hy) (fun i g hg => hr (i + 1) g (by simpa using hg)) (fun m hm => hw m (by simp [DataW.weightsEach]; exact .inr (by simpa using hm)))
    refine ⟨(x, z), ⟨_, _, ?_, hx, hz⟩, gx, gz⟩
    rw [hoff, ← List.drop_drop, List.take_append_drop]
theorem opens_struct {t : TypeId} {fs : List Field} {d : Kd α} {good : α → Prop} (ht : P.underlying t = some (.struct fs.toArray)) (hc : P.cellsOf t = d.sz) (h : OpensEach P fs 0 d good) : Opens P t d good := by
  constructor
  intro H enc W n cs y hy hw
  obtain ⟨xs, k, _, rfl, hl, hlen, hf⟩ := DataW.trod_struct ht hy
  have := h.out enc W k cs xs (by omega) (by simpa using hlen) (fun i f hi => hf i f (by simpa using hi)) (fun m hm => hw m (by simpa [DataW.weights, ht] using hm))
  simpa using this
theorem opens_iso {t : TypeId} {d : Kd α} {good : α → Prop} {f : β → α} (g : α → β) (hfg : ∀ x, f (g x) = x) (h : Opens P t d good) : Opens P t (Kd.iso d f) (fun x => good (f x)) := by
  constructor
  intro H enc W n cs y hy hw
  obtain ⟨x, hx, gx⟩ := h.out enc W n cs y hy hw
  exact ⟨g x, by show d.K W (f (g x)) cs; rw [hfg]; exact hx, by show good (f (g x)); rw [hfg]; exact gx⟩
/-- A parameter, opened. -/
theorem opens_param {H : Type} {enc : TypeId × Value → H} {W : World} {t : TypeId} {d : Kd α} {good : α → Prop} (h : Opens P t d good) {v : Value} {y : DataW H} {p : List MemPlace} (hv : DataW.Trod enc P W 0 (fun _ => true) true t v y p)
    {ts : List TypeId} {ds : List (DataW H)} {j : Nat} (hsz : (DataW.weightsEach P ts ds).all (· ≤ reachBytes) = true) (hj : ts[j]? = some t) (hd : ds[j]? = some y) : ∃ x, d.K W x v.cells.toList ∧ good x := by
  obtain ⟨n, hn⟩ := hv
  exact h.out enc W n _ (y, p) hn (fun m hm => by simpa using List.all_eq_true.1 hsz _ (DataW.weights_mem_each hj hd m hm))
theorem agg_cells {cs : Array Value} {l : List Value} (h : (Value.agg cs).cells.toList = l) : cs = l.toArray := by
  have : cs.toList = l := h
  rw [← this]
end Go.Proofs.Ytplkhmfoehjaoaa.Open
