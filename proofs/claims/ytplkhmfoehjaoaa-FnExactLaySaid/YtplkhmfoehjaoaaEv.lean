/- 'From some number of rounds on': the calculus in which the printed functions' pure sides are proved. -/
import Derived.Test.YtplkhmfoehjaoaaWWords
import Derived.Test.YtplkhmfoehjaoaaWMore
namespace Go.Proofs.Ytplkhmfoehjaoaa.Ev
open Go.RowKit Go.Proofs.YtplkhmfoehjaoaaW.PrintWords
set_option linter.unusedVariables false
variable {α β : Type}
/-- From some number of rounds on, the answer is r. -/
def Tel (f : Nat → Option β) (r : β) : Prop := ∃ K, ∀ k, K ≤ k → f k = some r
theorem Tel.get {f : Nat → Option β} {r : β} (h : Tel f r) : ∃ k, f k = some r := h.imp fun K hK => hK K (Nat.le_refl _)
theorem Tel.ret (r : β) : Tel (fun _ => some r) r := ⟨0, fun _ _ => rfl⟩
theorem Tel.of {x : Option β} {r : β} (h : x = some r) : Tel (fun _ => x) r := ⟨0, fun _ _ => h⟩
theorem Tel.eq {f : Nat → Option β} {r r' : β} (h : Tel f r) (e : r = r') : Tel f r' := e ▸ h
theorem Tel.step {f : Nat → Option β} {r : β} (h : Tel (fun k => f (k + 1)) r) : Tel f r := by
  obtain ⟨K, h⟩ := h
  refine ⟨K + 1, fun k hk => ?_⟩
  obtain ⟨j, rfl⟩ : ∃ j, k = j + 1 := ⟨k - 1, by omega⟩
  exact h j (by omega)
theorem Tel.bind {f : Nat → Option α} {g : Nat → α → Option β} {a : α} {r : β} (h : Tel f a) (hg : Tel (fun k => g k a) r) : Tel (fun k => (f k).bind fun x => g k x) r := by
  obtain ⟨K, h⟩ := h
  obtain ⟨L, hg⟩ := hg
  refine ⟨max K L, fun k hk => ?_⟩
  show (f k).bind (fun x => g k x) = some r
  rw [h k (by omega)]
  exact hg k (by omega)
theorem Tel.pos {c : Prop} [Decidable c] {t e : Nat → Option β} {r : β} (hc : c) (h : Tel t r) : Tel (fun k => if c then t k else e k) r := by
  obtain ⟨K, h⟩ := h
  exact ⟨K, fun k hk => by simp only [if_pos hc]; exact h k hk⟩
theorem Tel.neg {c : Prop} [Decidable c] {t e : Nat → Option β} {r : β} (hc : ¬ c) (h : Tel e r) : Tel (fun k => if c then t k else e k) r := by
  obtain ⟨K, h⟩ := h
  exact ⟨K, fun k hk => by simp only [if_neg hc]; exact h k hk⟩
theorem Tel.split {c : Prop} [Decidable c] {t e : Nat → Option β} {r : β} (ht : c → Tel t r) (he : ¬ c → Tel e r) : Tel (fun k => if c then t k else e k) r := by
  by_cases h : c
  · exact .pos h (ht h)
  · exact .neg h (he h)
theorem w64 {x : Int} (h0 : -9223372036854775808 ≤ x) (h1 : x ≤ 9223372036854775807) : wrap64 x = x := by unfold wrap64; omega
theorem rdOf_lt (d : α) {xs : List α} {i : Nat} (h : i < xs.length) : rdOf d xs (i : Int) = xs[i] := by
  simp [rdOf, List.getD, List.getElem?_eq_getElem h]
/-- A row that agrees up to i, with its element at i set, agrees up to i + 1. -/
theorem take_set {l acc : List α} {i : Nat} {x : α} (hi : i < l.length) (ha : acc.length = l.length) (ht : acc.take i = l.take i) (hx : l[i] = x) : (acc.set i x).take (i + 1) = l.take (i + 1) := by
  apply List.ext_getElem
  · simp; omega
  · intro j h1 h2
    simp only [List.length_take, List.length_set] at h1 h2
    simp only [List.getElem_take]
    by_cases e : j = i
    · subst e; simp [hx]
    · rw [List.getElem_set_ne (by omega)]
      have := congrArg (fun x => x[j]?) ht
      simp only [List.getElem?_take] at this
      rw [if_pos (by omega), if_pos (by omega), List.getElem?_eq_getElem (by omega), List.getElem?_eq_getElem (by omega)] at this
      exact Option.some.inj this
theorem take_all {l acc : List α} {i : Nat} (hi : l.length ≤ i) (ha : acc.length = l.length) (ht : acc.take i = l.take i) : acc = l := by
  rwa [List.take_of_length_le (by omega), List.take_of_length_le (by omega)] at ht
/-- What lies at i in a row that agrees with another up to i + 1, whose element at i was set. -/
theorem get_of_take {r acc : List α} {i : Nat} {x : α} (hi : i < acc.length) (hr : r.length = acc.length) (ht : r.take (i + 1) = (acc.set i x).take (i + 1)) : ∃ h : i < r.length, r[i] = x := by
  refine ⟨by omega, ?_⟩
  have := congrArg (fun y => y[i]?) ht
  simp only [List.getElem?_take, if_pos (Nat.lt_succ_self i)] at this
  rw [List.getElem?_eq_getElem (by omega), List.getElem?_eq_getElem (by simp; omega)] at this
  simpa using Option.some.inj this
theorem take_less {r acc : List α} {i : Nat} {x : α} (ht : r.take (i + 1) = (acc.set i x).take (i + 1)) : r.take i = acc.take i := by
  have := congrArg (fun y => y.take i) ht
  simp only [List.take_take, Nat.min_eq_left (Nat.le_succ i)] at this
  rw [this, List.take_set_of_le (Nat.le_refl i)]
end Go.Proofs.Ytplkhmfoehjaoaa.Ev
