/- Small lemmas of ours over the print's words: a row that reads, its head's address, its cells; a row of the call's own with its blocks in an interval. -/
import Derived.Test.YtplkhmfoehjaoaaWWords
import Derived.Test.YtplkhmfoehjaoaaWMore
import Derived.Test.YtplkhmfoehjaoaaWKept
import Derived.WalkKit
namespace Go.Proofs.Ytplkhmfoehjaoaa.Base
open Go.RowKit Go.Proofs.YtplkhmfoehjaoaaW.PrintWords

theorem spot_none {w : World} {a : Addr} {v : Value} (h : w.cell? a = some v) : a.spot = none := by
  unfold World.cell? at h
  split at h
  · cases hs : a.spot with
    | none => rfl
    | some s => simp [hs] at h
  · cases h
theorem C_cells {α : Type} {d : Kd α} {enc : α → List Value} (hd : ∀ w x cs, d.K w x cs → cs = enc x) (hz : 0 < d.sz) {w : World} {A : Option Addr} {l : List α} (h : Kd.C d w A l.length l) (hp : 0 < l.length) :
    ∃ b off, A = some ⟨b, off, none⟩ ∧ b < w.heap.size ∧ ∀ j (hj : j < l.length) i u, (enc l[j])[i]? = some u → w.cell? ⟨b, off + j * d.sz + i, none⟩ = some u := by
  obtain ⟨_, _, hr⟩ := h
  obtain ⟨ad, rfl, hc⟩ := hr hp
  have h0 : ∃ v, w.cell? ad = some v := by
    obtain ⟨c, hl, hk, hcell⟩ := hc 0 l[0] (List.getElem?_eq_getElem hp)
    have : 0 < c.length := by omega
    have := hcell 0 c[0] (List.getElem?_eq_getElem this)
    exact ⟨_, by simpa [Addr.add] using this⟩
  obtain ⟨v, hv⟩ := h0
  have hs := spot_none hv
  have hb := World.block_lt_of_cell? w ad hv
  obtain ⟨b, off, sp⟩ := ad
  simp only at hs hb
  subst hs
  refine ⟨b, off, rfl, hb, fun j hj i u hu => ?_⟩
  obtain ⟨c, hl, hk, hcell⟩ := hc j l[j] (List.getElem?_eq_getElem hj)
  rw [hd _ _ _ hk] at hcell
  have := hcell i u hu
  rw [add_at] at this
  rwa [Nat.add_assoc]
theorem C_head {α : Type} [Inhabited α] {d : Kd α} {enc : α → Value} (hd : ∀ w x cs, d.K w x cs → cs = [enc x]) (h1 : d.sz = 1) {w : World} {A : Option Addr} {l : List α} (h : Kd.C d w A l.length l) (hp : 0 < l.length) :
    ∃ b off, A = some ⟨b, off, none⟩ ∧ ∀ j, j < l.length → w.cell? ⟨b, off + j, none⟩ = some (enc l[j]!) := by
  obtain ⟨b, off, hA, _, hc⟩ := C_cells (enc := fun x => [enc x]) hd (by omega) h hp
  refine ⟨b, off, hA, fun j hj => ?_⟩
  have := hc j hj 0 (enc l[j]) rfl
  rw [h1] at this
  rw [getElem!_pos l j hj]
  simpa using this
/-- A row of flat elements: its own block alone. -/
theorem R_tight {α : Type} {d : Kd α} (hE : d.E = []) {e : Nat} {w : World} {base : Nat} {ok ok' : Nat → Prop} {v : Value} {xs : List α} (h : Kd.R d e w base ok v xs) (hok : ∀ k, v.ownBlock = some k → base ≤ k → k < w.heap.size → ok' k) : Kd.R d e w base ok' v xs := by
  have hlt := Kd.R_lt h
  have hba := Kd.R_base h
  obtain ⟨_, inner, ho, hr⟩ := h
  refine ⟨fun k hk => hok k hk (hba k hk) (hlt k hk), inner, ho, hr.imp_ (fun p c hp => d.M_mono (fun k hk => ?_) (d.M_bound hp))⟩
  obtain ⟨_, _, _, q, hq, _⟩ := hk
  rw [hE] at hq
  cases hq
theorem R_mk {α : Type} {d : Kd α} {e : Nat} {w : World} {base : Nat} {ok : Nat → Prop} {v : Value} {xs : List α} (h : Kd.R d e w base ok v xs) : ∃ A c, v = .slice A xs.length c ∧ xs.length ≤ c := by
  obtain ⟨A, c, h1, h2, _⟩ := Kd.R_reads h
  exact ⟨A, c, h1, h2⟩
end Go.Proofs.Ytplkhmfoehjaoaa.Base
