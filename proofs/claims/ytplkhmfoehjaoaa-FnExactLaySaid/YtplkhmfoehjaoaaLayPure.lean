/- The law FnExactLay without the program: what its functions compute, and that it answers true. -/
import Derived.Test.YtplkhmfoehjaoaaPFnExactLayx
import Derived.Test.YtplkhmfoehjaoaaEv
namespace Go.Proofs.Ytplkhmfoehjaoaa.PFnExactLay
open Go.RowKit Go.Proofs.YtplkhmfoehjaoaaW.PrintWords Go.Proofs.YtplkhmfoehjaoaaW.PrintLast Go.Proofs.YtplkhmfoehjaoaaW.PrintMore
open Go.Proofs.Ytplkhmfoehjaoaa.Ev
set_option linter.unusedVariables false
set_option linter.unusedSimpArgs false
def B : Nat := 140737488351232
theorem rd65 {xs : List S65} {i : Nat} (h : i < xs.length) : rd_T65 xs (i : Int) = xs[i] := by simp [rd_T65, List.getD, List.getElem?_eq_getElem h]
theorem rd102 {xs : List S102} {i : Nat} (h : i < xs.length) : rd_T102 xs (i : Int) = xs[i] := by simp [rd_T102, List.getD, List.getElem?_eq_getElem h]
theorem inc {i n : Nat} (h : i < n) (hn : n ≤ B) : wrap64 ((i : Int) + 1) = ((i + 1 : Nat) : Int) := by unfold B at hn; rw [w64 (by omega) (by omega)]; omega

/-! ### sizes -/
theorem szS_loop (l : List ByteArray) (hl : l.length ≤ B) (hs : ∀ x ∈ l, x.size ≤ B) : ∀ (d i : Nat) (a : Int), i + d = l.length → 0 ≤ a → a ≤ 1048576 → ∃ t, Tel (fun k => laws_szStringS.l0 k l a i) t ∧ t ≤ a := by
  intro d
  induction d with
  | zero =>
    intro i a hi h0 h1
    refine ⟨a, Tel.step ?_, Int.le_refl _⟩
    simp only [laws_szStringS.l0]
    exact Tel.neg (by omega) (Tel.ret _)
  | succ d ih =>
    intro i a hi h0 h1
    have hz := hs l[i] (List.getElem_mem _)
    have hw : wrap64 (a - ((l[i]).size : Int)) = a - ((l[i]).size : Int) := by unfold B at hz; exact w64 (by omega) (by omega)
    by_cases hc : a - ((l[i]).size : Int) < 0
    · refine ⟨-1, Tel.step ?_, by omega⟩
      simp only [laws_szStringS.l0, rdOf_lt _ (show i < l.length by omega), hw]
      exact Tel.pos (by omega) (Tel.pos (by omega) (Tel.pos hc (Tel.ret _)))
    · obtain ⟨t, ht, hle⟩ := ih (i + 1) (a - ((l[i]).size : Int)) (by omega) (by omega) (by omega)
      refine ⟨t, Tel.step ?_, by omega⟩
      simp only [laws_szStringS.l0, rdOf_lt _ (show i < l.length by omega), hw, inc (show i < l.length by omega) hl]
      exact Tel.pos (by omega) (Tel.pos (by omega) (Tel.neg hc ht))
theorem szS_eq (l : List ByteArray) (hl : l.length ≤ B) (hs : ∀ x ∈ l, x.size ≤ B) (a : Int) (h0 : 0 ≤ a) (h1 : a ≤ 1048576) : ∃ t, Tel (fun k => laws_szStringS.f k l a) t ∧ t ≤ a ∧ (0 ≤ t → t + l.length ≤ a) := by
  have hw : wrap64 (a - (l.length : Int)) = a - (l.length : Int) := by unfold B at hl; exact w64 (by omega) (by omega)
  simp only [laws_szStringS.f, hw]
  by_cases hc : a - (l.length : Int) < 0
  · exact ⟨-1, Tel.pos hc (Tel.ret _), by omega, by omega⟩
  · obtain ⟨t, ht, hle⟩ := szS_loop l hl hs l.length 0 (a - (l.length : Int)) (by omega) (by omega) (by omega)
    exact ⟨t, Tel.neg hc ht, by omega, by omega⟩
theorem szP_loop (l : List S102) (hl : l.length ≤ B) (hs : ∀ x ∈ l, x.f1.size ≤ B) : ∀ (d i : Nat) (a : Int), i + d = l.length → 0 ≤ a → a ≤ 1048576 → ∃ t, Tel (fun k => laws_szPatchS.l0 k l a i) t ∧ t ≤ a := by
  intro d
  induction d with
  | zero =>
    intro i a hi h0 h1
    refine ⟨a, Tel.step ?_, Int.le_refl _⟩
    simp only [laws_szPatchS.l0]
    exact Tel.neg (by omega) (Tel.ret _)
  | succ d ih =>
    intro i a hi h0 h1
    have hz := hs l[i] (List.getElem_mem _)
    have hw : wrap64 (a - ((l[i]).f1.size : Int)) = a - ((l[i]).f1.size : Int) := by unfold B at hz; exact w64 (by omega) (by omega)
    by_cases hc : a - ((l[i]).f1.size : Int) < 0
    · refine ⟨-1, Tel.step ?_, by omega⟩
      simp only [laws_szPatchS.l0, laws_szPatch.f, rd102 (show i < l.length by omega), hw]
      exact Tel.pos (by omega) (Tel.pos (by omega) (Tel.bind (Tel.pos hc (Tel.ret _)) (Tel.pos (by omega) (Tel.ret _))))
    · obtain ⟨t, ht, hle⟩ := ih (i + 1) (a - ((l[i]).f1.size : Int)) (by omega) (by omega) (by omega)
      refine ⟨t, Tel.step ?_, by omega⟩
      simp only [laws_szPatchS.l0, laws_szPatch.f, rd102 (show i < l.length by omega), hw, inc (show i < l.length by omega) hl]
      exact Tel.pos (by omega) (Tel.pos (by omega) (Tel.bind (Tel.neg hc (Tel.ret _)) (Tel.neg (by omega) ht)))
theorem szP_eq (l : List S102) (hl : l.length ≤ B) (hs : ∀ x ∈ l, x.f1.size ≤ B) (a : Int) (h0 : 0 ≤ a) (h1 : a ≤ 1048576) : ∃ t, Tel (fun k => laws_szPatchS.f k l a) t ∧ t ≤ a ∧ (0 ≤ t → t + l.length ≤ a) := by
  have hw : wrap64 (a - (l.length : Int)) = a - (l.length : Int) := by unfold B at hl; exact w64 (by omega) (by omega)
  simp only [laws_szPatchS.f, hw]
  by_cases hc : a - (l.length : Int) < 0
  · exact ⟨-1, Tel.pos hc (Tel.ret _), by omega, by omega⟩
  · obtain ⟨t, ht, hle⟩ := szP_loop l hl hs l.length 0 (a - (l.length : Int)) (by omega) (by omega) (by omega)
    exact ⟨t, Tel.neg hc ht, by omega, by omega⟩
theorem szDev_eq (l : List ByteArray) (m : List S102) (hl : l.length ≤ B) (hs : ∀ x ∈ l, x.size ≤ B) (hm : m.length ≤ B) (hp : ∀ x ∈ m, x.f1.size ≤ B) :
    ∃ t, Tel (fun k => laws_szDevice.f k l m 1048576) t ∧ (0 ≤ t → l.length + m.length ≤ 1048576) := by
  obtain ⟨t, ht, h1, h2⟩ := szS_eq l hl hs 1048576 (by omega) (by omega)
  simp only [laws_szDevice.f]
  by_cases hc : t < 0
  · exact ⟨-1, Tel.bind ht (Tel.pos hc (Tel.ret _)), by omega⟩
  · obtain ⟨u, hu, h3, h4⟩ := szP_eq m hm hp t (by omega) (by omega)
    by_cases hd : u < 0
    · exact ⟨-1, Tel.bind ht (Tel.neg hc (Tel.bind hu (Tel.pos hd (Tel.ret _)))), by omega⟩
    · exact ⟨u, Tel.bind ht (Tel.neg hc (Tel.bind hu (Tel.neg hd (Tel.ret _)))), by omega⟩

/-! ### copies -/
theorem toS_loop (l : List ByteArray) (hl : l.length ≤ 1048576) : ∀ (d i : Nat) (acc : List ByteArray), i + d = l.length → acc.length = l.length → acc.take i = l.take i → Tel (fun k => laws_toStringS.l0 k l acc i) l := by
  intro d
  induction d with
  | zero =>
    intro i acc hi ha ht
    refine Tel.step ?_
    simp only [laws_toStringS.l0]
    exact Tel.neg (by omega) (Tel.of (congrArg some (take_all (by omega) ha ht)))
  | succ d ih =>
    intro i acc hi ha ht
    refine Tel.step ?_
    simp only [laws_toStringS.l0, rdOf_lt _ (show i < l.length by omega), inc (show i < l.length by omega) (show l.length ≤ B by unfold B; omega), Int.toNat_natCast]
    exact Tel.pos (by omega) (Tel.pos (by omega) (Tel.pos (by omega) (ih (i + 1) _ (by omega) (by simp [ha]) (take_set (by omega) ha ht rfl))))
theorem toS_eq (l : List ByteArray) (hl : l.length ≤ 1048576) : Tel (fun k => laws_toStringS.f k l) l := by
  simp only [laws_toStringS.f]
  exact Tel.pos (by omega) (Tel.pos (by omega) (by simpa using toS_loop l hl l.length 0 _ (by omega) (by simp) (by simp)))
def conv (x : S102) : S65 := ⟨x.f0, x.f1⟩
theorem toP_loop (l : List S102) (hl : l.length ≤ 1048576) : ∀ (d i : Nat) (acc : List S65), i + d = l.length → acc.length = l.length → acc.take i = (l.map conv).take i → Tel (fun k => laws_toPatchS.l0 k l acc i) (l.map conv) := by
  intro d
  induction d with
  | zero =>
    intro i acc hi ha ht
    refine Tel.step ?_
    simp only [laws_toPatchS.l0]
    exact Tel.neg (by omega) (Tel.of (congrArg some (take_all (by simp; omega) (by simp [ha]) ht)))
  | succ d ih =>
    intro i acc hi ha ht
    refine Tel.step ?_
    simp only [laws_toPatchS.l0, laws_toPatch.f, rd102 (show i < l.length by omega), inc (show i < l.length by omega) (show l.length ≤ B by unfold B; omega), Int.toNat_natCast]
    exact Tel.pos (by omega) (Tel.pos (by omega) (Tel.bind (Tel.ret _) (Tel.pos (by omega) (ih (i + 1) _ (by omega) (by simp [ha]) (take_set (by simp; omega) (by simp [ha]) ht (by simp [conv]))))))
theorem toP_eq (l : List S102) (hl : l.length ≤ 1048576) : Tel (fun k => laws_toPatchS.f k l) (l.map conv) := by
  simp only [laws_toPatchS.f]
  exact Tel.pos (by omega) (Tel.pos (by omega) (by simpa using toP_loop l hl l.length 0 _ (by omega) (by simp) (by simp)))
theorem toDev_eq (l : List ByteArray) (m : List S102) (hl : l.length ≤ 1048576) (hm : m.length ≤ 1048576) : Tel (fun k => laws_toDevice.f k l m) (l, m.map conv) := by
  simp only [laws_toDevice.f]
  exact Tel.bind (toS_eq l hl) (Tel.bind (toP_eq m hm) (Tel.ret _))

/-! ### comparing -/
theorem eqS_loop (l : List ByteArray) (hl : l.length ≤ 1048577) : ∀ (d i : Nat), i + d = l.length → Tel (fun k => laws_eqStringS.l0 k l l i) true := by
  intro d
  induction d with
  | zero => intro i hi; refine Tel.step ?_; simp only [laws_eqStringS.l0]; exact Tel.neg (by omega) (Tel.ret _)
  | succ d ih =>
    intro i hi
    refine Tel.step ?_
    simp only [laws_eqStringS.l0, inc (show i < l.length by omega) (show l.length ≤ B by unfold B; omega)]
    exact Tel.pos (by omega) (Tel.pos (by omega) (Tel.pos (by omega) (Tel.pos trivial (ih (i + 1) (by omega)))))
theorem eqS_eq (l : List ByteArray) (hl : l.length ≤ 1048577) : Tel (fun k => laws_eqStringS.f k l l) true := by
  simp only [laws_eqStringS.f]
  exact Tel.pos trivial (eqS_loop l hl l.length 0 (by omega))
theorem eqP_loop (l : List S65) (hl : l.length ≤ 1048577) : ∀ (d i : Nat), i + d = l.length → Tel (fun k => laws_eqPatchS.l0 k l l i) true := by
  intro d
  induction d with
  | zero => intro i hi; refine Tel.step ?_; simp only [laws_eqPatchS.l0]; exact Tel.neg (by omega) (Tel.ret _)
  | succ d ih =>
    intro i hi
    refine Tel.step ?_
    simp only [laws_eqPatchS.l0, laws_eqPatch.f, inc (show i < l.length by omega) (show l.length ≤ B by unfold B; omega)]
    exact Tel.pos (by omega) (Tel.pos (by omega) (Tel.pos (by omega) (Tel.bind (Tel.pos trivial (Tel.pos trivial (Tel.ret _))) (Tel.pos rfl (ih (i + 1) (by omega))))))
theorem eqP_eq (l : List S65) (hl : l.length ≤ 1048577) : Tel (fun k => laws_eqPatchS.f k l l) true := by
  simp only [laws_eqPatchS.f]
  exact Tel.pos trivial (eqP_loop l hl l.length 0 (by omega))
theorem eqDev_eq (l : List ByteArray) (m : List S65) (hl : l.length ≤ 1048577) (hm : m.length ≤ 1048577) : Tel (fun k => laws_eqDevice.f k l m l m) true := by
  simp only [laws_eqDevice.f]
  exact Tel.bind (eqS_eq l hl) (Tel.pos rfl (Tel.bind (eqP_eq m hm) (Tel.pos rfl (Tel.ret _))))

/-! ### marks -/
theorem text_loop : ∀ (n : Nat) (x : Int) (s : ByteArray), x.toNat < n → x ≤ 100000000 → s.size + x.toNat ≤ 1000000000 → ∃ r, Tel (fun k => laws_markText.l0 k x s) r := by
  intro n
  induction n with
  | zero => intro x s h; exact absurd h (by omega)
  | succ n ih =>
    intro x s hx hb hs
    by_cases hp : x > 0
    · have e1 : Int.tdiv x 10 = x / 10 := by rw [Int.tdiv_eq_ediv_of_nonneg (by omega)]
      have hd : x / 10 < x := by omega
      have hw : wrap64 (x / 10) = x / 10 := w64 (by omega) (by omega)
      have hsz : ∀ z : Int, (strOfNums [z]).size = 1 := fun z => rfl
      obtain ⟨r, hr⟩ := ih (x / 10) (strOfNums [(wrap64 (48 + (Int.tmod x 10))) % 256] ++ s) (by omega) (by omega) (by rw [ByteArray.size_append, hsz]; omega)
      refine ⟨r, Tel.step ?_⟩
      simp only [laws_markText.l0, e1, hw]
      exact Tel.pos hp (Tel.bind (Tel.ret _) (Tel.pos (by rw [hsz]; omega) hr))
    · refine ⟨(⟨#[109]⟩ : ByteArray) ++ s, Tel.step ?_⟩
      simp only [laws_markText.l0]
      exact Tel.neg hp (Tel.pos (by omega) (Tel.ret _))
theorem text_eq (x : Int) (hx : x ≤ 100000000) : ∃ r, Tel (fun k => laws_markText.f k x) r := by
  simp only [laws_markText.f]
  by_cases h : x ≤ 0
  · exact ⟨_, Tel.pos h (Tel.ret _)⟩
  · obtain ⟨r, hr⟩ := text_loop (x.toNat + 1) x ⟨#[]⟩ (by omega) hx (by show 0 + x.toNat ≤ _; omega)
    exact ⟨r, Tel.neg h hr⟩
theorem markS_loop (n : Nat) (hn : n ≤ 1048577) : ∀ (d i : Nat) (acc : List ByteArray) (c : Int), i + d = n → acc.length = n → 0 ≤ c → c + d ≤ 10000000 →
    ∃ r : List ByteArray, Tel (fun k => laws_markStringS.l0 k acc c i) (c + d, r) ∧ r.length = n ∧ r.take i = acc.take i ∧ Tel (fun k => laws_heldStringS.l0 k r c i) (c + d) := by
  intro d
  induction d with
  | zero =>
    intro i acc c hi ha h0 hc
    refine ⟨acc, Tel.step ?_, ha, rfl, Tel.step ?_⟩
    · simp only [laws_markStringS.l0]
      exact Tel.neg (by omega) (Tel.of (by simp))
    · simp only [laws_heldStringS.l0]
      exact Tel.neg (by omega) (Tel.of (by simp))
  | succ d ih =>
    intro i acc c hi ha h0 hc
    obtain ⟨s, hs⟩ := text_eq c (by omega)
    obtain ⟨r, h1, h2, h3, h4⟩ := ih (i + 1) (acc.set i s) (c + 1) (by omega) (by simp [ha]) (by omega) (by omega)
    obtain ⟨hir, hri⟩ := get_of_take (show i < acc.length by omega) (by omega) h3
    have e : c + 1 + (d : Int) = c + ((d + 1 : Nat) : Int) := by omega
    rw [e] at h1 h4
    have hw : wrap64 (c + 1) = c + 1 := w64 (by omega) (by omega)
    refine ⟨r, Tel.step ?_, h2, take_less h3, Tel.step ?_⟩
    · simp only [laws_markStringS.l0, hw, inc (show i < n by omega) (show n ≤ B by unfold B; omega), Int.toNat_natCast]
      exact Tel.pos (by omega) (Tel.bind hs (Tel.pos (by omega) h1))
    · simp only [laws_heldStringS.l0, hw, inc (show i < n by omega) (show n ≤ B by unfold B; omega), rdOf_lt _ hir, hri]
      exact Tel.pos (by omega) (Tel.pos (by omega) (Tel.bind hs (Tel.pos rfl h4)))
theorem markP_loop (n : Nat) (hn : n ≤ 1048577) : ∀ (d i : Nat) (acc : List S65) (c : Int), i + d = n → acc.length = n → 0 ≤ c → c + 2 * d ≤ 10000000 →
    ∃ r : List S65, Tel (fun k => laws_markPatchS.l0 k acc c i) (c + 2 * d, r) ∧ r.length = n ∧ r.take i = acc.take i ∧ Tel (fun k => laws_heldPatchS.l0 k r c i) (c + 2 * d) := by
  intro d
  induction d with
  | zero =>
    intro i acc c hi ha h0 hc
    refine ⟨acc, Tel.step ?_, ha, rfl, Tel.step ?_⟩
    · simp only [laws_markPatchS.l0]
      exact Tel.neg (by omega) (Tel.of (by simp))
    · simp only [laws_heldPatchS.l0]
      exact Tel.neg (by omega) (Tel.of (by simp))
  | succ d ih =>
    intro i acc c hi ha h0 hc
    obtain ⟨s, hs⟩ := text_eq (c + 1) (by omega)
    obtain ⟨r, h1, h2, h3, h4⟩ := ih (i + 1) (acc.set i ⟨c, s⟩) (c + 1 + 1) (by omega) (by simp [ha]) (by omega) (by omega)
    obtain ⟨hir, hri⟩ := get_of_take (show i < acc.length by omega) (by omega) h3
    have e : c + 1 + 1 + 2 * (d : Int) = c + 2 * ((d + 1 : Nat) : Int) := by omega
    rw [e] at h1 h4
    have hw : wrap64 (c + 1) = c + 1 := w64 (by omega) (by omega)
    have hw2 : wrap64 (c + 1 + 1) = c + 1 + 1 := w64 (by omega) (by omega)
    refine ⟨r, Tel.step ?_, h2, take_less h3, Tel.step ?_⟩
    · simp only [laws_markPatchS.l0, hw, hw2, inc (show i < n by omega) (show n ≤ B by unfold B; omega), Int.toNat_natCast]
      refine Tel.pos (by omega) (Tel.pos (by omega) (Tel.bind (Tel.ret _) (Tel.bind hs ?_)))
      rw [rd65 (show i < (acc.set i (⟨c, (rd_T65 acc i).f1⟩ : S65)).length by simp; omega)]
      simp only [List.getElem_set_self, List.set_set]
      exact h1
    · simp only [laws_heldPatchS.l0, hw, hw2, inc (show i < n by omega) (show n ≤ B by unfold B; omega), rd65 hir, hri]
      exact Tel.pos (by omega) (Tel.pos (by omega) (Tel.pos trivial (Tel.bind hs (Tel.pos rfl h4))))
theorem markDev_eq (l : List ByteArray) (m : List S65) (h : l.length + m.length ≤ 1048577) :
    ∃ (c : Int) (l' : List ByteArray) (m' : List S65), 0 ≤ c ∧ Tel (fun k => laws_markDevice.f k l m 1) (c, l', m') ∧ Tel (fun k => laws_heldDevice.f k l' m' 1) c ∧ l'.length = l.length ∧ m'.length = m.length := by
  obtain ⟨l', h1, h2, _, h3⟩ := markS_loop l.length (by omega) l.length 0 l 1 (by omega) rfl (by omega) (by omega)
  obtain ⟨m', h4, h5, _, h6⟩ := markP_loop m.length (by omega) m.length 0 m (1 + l.length) (by omega) rfl (by omega) (by omega)
  refine ⟨1 + l.length + 2 * m.length, l', m', by omega, ?_, ?_, h2, h5⟩
  · simp only [laws_markDevice.f, laws_markStringS.f, laws_markPatchS.f]
    exact Tel.bind h1 (Tel.bind h4 (Tel.ret _))
  · simp only [laws_heldDevice.f, laws_heldStringS.f, laws_heldPatchS.f]
    exact Tel.bind h3 (Tel.neg (by omega) (Tel.bind h6 (Tel.neg (by omega) (Tel.ret _))))

/-! ### what Lay answers -/
theorem l1In_eq (a b c : Int) : spec_l1In.f a b c = some (decide (b ≤ a ∧ a ≤ c)) := by
  unfold spec_l1In.f
  by_cases h : a ≥ b
  · rw [if_pos h]; simp [h]
  · rw [if_neg h]; simp; omega
theorem within_eq (a b c : Int) : impl_within.f a b c = some (decide (b ≤ a ∧ a ≤ c)) := by
  unfold impl_within.f
  by_cases h : a ≥ b
  · rw [if_pos h]; simp [h]
  · rw [if_neg h]; simp; omega
theorem ok1_loop (l : List ByteArray) (m : List S65) (n : Nat) (h1 : 1 ≤ n) (h2 : n ≤ 16) (hm : m.length ≤ 30) : ∀ (d i : Nat), i + d = m.length → Tel (fun k => spec_DeviceOk.l1 k n i l m) (!(m.drop i).any fun x => !dk_good n x) := by
  intro d
  induction d with
  | zero =>
    intro i hi
    refine Tel.step ?_
    simp only [spec_DeviceOk.l1]
    exact Tel.neg (by omega) (Tel.of (by rw [List.drop_eq_nil_of_le (by omega)]; rfl))
  | succ d ih =>
    intro i hi
    have hlt : i < m.length := by omega
    have hw : wrap64 ((n : Int) - 1) = (n : Int) - 1 := w64 (by omega) (by omega)
    refine Tel.step ?_
    simp only [spec_DeviceOk.l1, l1In_eq, rd65 hlt, inc hlt (show m.length ≤ B by unfold B; omega), hw]
    rw [List.drop_eq_getElem_cons hlt, List.any_cons]
    refine Tel.pos (by omega) (Tel.pos (by omega) (Tel.bind (Tel.ret _) ?_))
    by_cases hc : 0 ≤ (m[i]).f0 ∧ (m[i]).f0 ≤ (n : Int) - 1
    · refine Tel.pos (decide_eq_true hc) ?_
      by_cases hs : ((m[i]).f1.size : Int) > 400
      · refine Tel.pos hs (Tel.of ?_)
        simp [dk_good]
        omega
      · refine Tel.neg hs ((ih (i + 1) (by omega)).eq ?_)
        have : dk_good n m[i] = true := by simp [dk_good, hc]; omega
        simp [this]
    · refine Tel.neg (by simpa using hc) (Tel.of ?_)
      have : dk_good n m[i] = false := by simp [dk_good, decide_eq_false hc]
      simp [this]
theorem ok0_loop (l : List ByteArray) (m : List S65) (h1 : 1 ≤ l.length) (h2 : l.length ≤ 16) (hm : m.length ≤ 30) : ∀ (d i : Nat), i + d = l.length →
    Tel (fun k => spec_DeviceOk.l0 k l.length i l m) (!(l.drop i).any (fun s => decide (400 < s.size)) && !m.any fun x => !dk_good l.length x) := by
  intro d
  induction d with
  | zero =>
    intro i hi
    refine Tel.step ?_
    simp only [spec_DeviceOk.l0]
    refine Tel.neg (by omega) ((ok1_loop l m l.length h1 h2 hm m.length 0 (by omega)).eq ?_)
    rw [List.drop_eq_nil_of_le (show l.length ≤ i by omega)]
    simp
  | succ d ih =>
    intro i hi
    have hlt : i < l.length := by omega
    refine Tel.step ?_
    simp only [spec_DeviceOk.l0, rdOf_lt _ hlt, inc hlt (show l.length ≤ B by unfold B; omega)]
    rw [List.drop_eq_getElem_cons hlt, List.any_cons]
    refine Tel.pos (by omega) (Tel.pos (by omega) (Tel.pos (by omega) ?_))
    by_cases hs : ((l[i]).size : Int) > 400
    · refine Tel.pos hs (Tel.of ?_)
      have : decide (400 < (l[i]).size) = true := decide_eq_true (by omega)
      simp [this]
    · refine Tel.neg hs ((ih (i + 1) (by omega)).eq ?_)
      have : decide (400 < (l[i]).size) = false := decide_eq_false (by omega)
      simp [this]
def dok (l : List ByteArray) (m : List S65) : Bool := decide (1 ≤ l.length ∧ l.length ≤ 16) && decide (m.length ≤ 30) && !l.any (fun s => decide (400 < s.size)) && !m.any (fun x => !dk_good l.length x)
theorem dok_eq (l : List ByteArray) (m : List S65) : Tel (fun k => spec_DeviceOk.f k l m) (dok l m) := by
  simp only [spec_DeviceOk.f]
  by_cases h1 : (l.length : Int) < 1
  · refine Tel.pos h1 (Tel.step ?_)
    simp only [spec_DeviceOk.j0]
    refine Tel.pos trivial (Tel.of ?_)
    have : decide (1 ≤ l.length ∧ l.length ≤ 16) = false := decide_eq_false (by omega)
    simp [dok, this]
  · refine Tel.neg h1 ?_
    by_cases h2 : (l.length : Int) > 16
    · refine Tel.pos h2 (Tel.step ?_)
      simp only [spec_DeviceOk.j0]
      refine Tel.pos trivial (Tel.of ?_)
      have : decide (1 ≤ l.length ∧ l.length ≤ 16) = false := decide_eq_false (by omega)
      simp [dok, this]
    · refine Tel.neg h2 (Tel.step ?_)
      simp only [spec_DeviceOk.j0]
      have e1 : decide (1 ≤ l.length ∧ l.length ≤ 16) = true := decide_eq_true (by omega)
      by_cases h3 : (m.length : Int) > 30
      · refine Tel.pos (decide_eq_true h3) (Tel.of ?_)
        have : decide (m.length ≤ 30) = false := decide_eq_false (by omega)
        simp [dok, this]
      · refine Tel.neg (by simpa using h3) ((ok0_loop l m (by omega) (by omega) (by omega) l.length 0 (by omega)).eq ?_)
        have : decide (m.length ≤ 30) = true := decide_eq_true (by omega)
        simp [dok, e1, this]
def lay (l : List ByteArray) (m : List S65) (a : Int) (s : ByteArray) : List ByteArray × List S65 × Bool :=
  if dok l m = true then (if 0 ≤ a ∧ a ≤ (l.length : Int) - 1 ∧ s.size ≤ 400 ∧ m.length ≠ 30 then (l, m ++ [⟨a, s⟩], true) else (l, m, false)) else ([], [], false)
theorem lay_no {l : List ByteArray} {m : List S65} {a : Int} {s : ByteArray} (h : ¬ dok l m = true) : lay l m a s = ([], [], false) := by unfold lay; rw [if_neg h]
theorem lay_not {l : List ByteArray} {m : List S65} {a : Int} {s : ByteArray} (h : dok l m = true) (h2 : ¬ (0 ≤ a ∧ a ≤ (l.length : Int) - 1 ∧ s.size ≤ 400 ∧ m.length ≠ 30)) : lay l m a s = (l, m, false) := by unfold lay; rw [if_pos h, if_neg h2]
theorem lay_yes {l : List ByteArray} {m : List S65} {a : Int} {s : ByteArray} (h : dok l m = true) (h2 : 0 ≤ a ∧ a ≤ (l.length : Int) - 1 ∧ s.size ≤ 400 ∧ m.length ≠ 30) : lay l m a s = (l, m ++ [⟨a, s⟩], true) := by unfold lay; rw [if_pos h, if_pos h2]
theorem specLay_eq (l : List ByteArray) (m : List S65) (a : Int) (s : ByteArray) (hl : l.length + m.length ≤ 1048576) : Tel (fun k => spec_Lay.f k l m a s) (lay l m a s) := by
  have hw : wrap64 ((l.length : Int) - 1) = (l.length : Int) - 1 := w64 (by omega) (by omega)
  simp only [spec_Lay.f, spec_l8Copy.f, l1In_eq, hw]
  refine Tel.bind (dok_eq l m) ?_
  by_cases hd : dok l m = true
  case neg => exact (Tel.neg hd (Tel.ret _)).eq (lay_no hd).symm
  refine Tel.pos hd (Tel.bind (a := (l, m)) (Tel.bind (Tel.ret _) (Tel.pos (by first | omega | (simp only [List.length_nil, List.nil_append]; omega) | (simp; omega)) (Tel.bind (Tel.ret _) (Tel.pos (by first | omega | (simp only [List.length_nil, List.nil_append]; omega) | (simp; omega)) (Tel.of (by simp)))))) (Tel.bind (Tel.ret _) ?_))
  by_cases h1 : 0 ≤ a ∧ a ≤ (l.length : Int) - 1
  case neg => rw [lay_not hd (fun h => h1 ⟨h.1, h.2.1⟩)]; exact Tel.neg (by simpa using h1) (Tel.ret _)
  refine Tel.pos (decide_eq_true h1) ?_
  by_cases h2 : (s.size : Int) > 400
  · rw [lay_not hd (fun h => by omega)]; exact Tel.pos h2 (Tel.ret _)
  refine Tel.neg h2 ?_
  by_cases h3 : (m.length : Int) = 30
  · rw [lay_not hd (fun h => by omega)]; exact Tel.pos h3 (Tel.ret _)
  rw [lay_yes hd ⟨h1.1, h1.2, by omega, by omega⟩]
  exact Tel.neg h3 (Tel.pos (by first | omega | (simp only [List.length_nil, List.nil_append]; omega) | (simp; omega)) (Tel.ret _))
theorem implLay_eq (l : List ByteArray) (m : List S65) (a : Int) (s : ByteArray) (hl : l.length + m.length ≤ 1048576) : Tel (fun _ => impl_Lay.f l m a s) (lay l m a s) := by
  have hw : wrap64 ((l.length : Int) - 1) = (l.length : Int) - 1 := w64 (by omega) (by omega)
  simp only [impl_Lay.f, impl_Device_own.f, slices_Clone_string_string.f, impl_Patch_86.f, impl_Device_fits.f, impl_DeviceOk.f, within_eq, hw]
  refine Tel.bind (a := dok l m) (Tel.ret _) ?_
  by_cases hd : dok l m = true
  case neg => exact (Tel.neg hd (Tel.ret _)).eq (lay_no hd).symm
  refine Tel.pos hd (Tel.bind (a := (l, m)) (Tel.bind (Tel.pos (by first | omega | (simp only [List.length_nil, List.nil_append]; omega) | (simp; omega)) (Tel.ret _)) (Tel.bind (Tel.pos (by first | omega | (simp only [List.length_nil, List.nil_append]; omega) | (simp; omega)) (Tel.ret _)) (Tel.ret _))) ?_)
  by_cases h1 : 0 ≤ a ∧ a ≤ (l.length : Int) - 1
  case neg => rw [lay_not hd (fun h => h1 ⟨h.1, h.2.1⟩)]; exact Tel.bind (Tel.bind (Tel.ret _) (Tel.neg (by simpa using h1) (Tel.ret _))) (Tel.neg (by decide) (Tel.ret _))
  refine Tel.bind (Tel.bind (Tel.ret _) (Tel.pos (decide_eq_true h1) (Tel.ret _))) ?_
  by_cases h2 : (s.size : Int) ≤ 400
  case neg => rw [lay_not hd (fun h => by omega)]; exact Tel.neg (by simpa using h2) (Tel.ret _)
  refine Tel.pos (decide_eq_true h2) ?_
  by_cases h3 : (m.length : Int) = 30
  · rw [lay_not hd (fun h => by omega)]; exact Tel.pos h3 (Tel.ret _)
  rw [lay_yes hd ⟨h1.1, h1.2, by omega, by omega⟩]
  exact Tel.neg h3 (Tel.pos (by first | omega | (simp only [List.length_nil, List.nil_append]; omega) | (simp; omega)) (Tel.ret _))
theorem lay_len (l : List ByteArray) (m : List S65) (a : Int) (s : ByteArray) (hl : l.length + m.length ≤ 1048576) : (lay l m a s).1.length + (lay l m a s).2.1.length ≤ 1048577 := by
  unfold lay
  split
  · split
    · simp; omega
    · simp; omega
  · simp
/-- THE LAW. -/
theorem law_true (l : List ByteArray) (m : List S102) (a : Int) (s : ByteArray) (hl : l.length ≤ B) (hs : ∀ x ∈ l, x.size ≤ B) (hm : m.length ≤ B) (hp : ∀ x ∈ m, x.f1.size ≤ B) : Tel (fun k => laws_FnExactLay.f k l m a s) true := by
  simp only [laws_FnExactLay.f]
  refine Tel.split (fun _ => Tel.ret _) (fun h0 => ?_)
  obtain ⟨t, ht, hlen⟩ := szDev_eq l m hl hs hm hp
  refine Tel.bind ht (Tel.split (fun _ => Tel.ret _) (fun h1 => ?_))
  have hll := hlen (by omega)
  have hto := toDev_eq l m (by omega) (by omega)
  have hspec := specLay_eq l (m.map conv) a s (by simp; omega)
  have himpl := implLay_eq l (m.map conv) a s (by simp; omega)
  have hout := lay_len l (m.map conv) a s (by simp; omega)
  generalize lay l (m.map conv) a s = r at hspec himpl hout
  have hq0 := eqDev_eq l (m.map conv) (by omega) (by simp; omega)
  have hq := eqDev_eq r.1 r.2.1 (by omega) (by omega)
  obtain ⟨c0, x0, y0, hc0, hmk0, _, _, _⟩ := markDev_eq l (m.map conv) (by simp; omega)
  obtain ⟨c, x, y, hc, hmk, hhe, _, _⟩ := markDev_eq r.1 r.2.1 (by omega)
  refine Tel.bind hto (Tel.bind hspec (Tel.bind hto (Tel.bind himpl (Tel.bind hq (Tel.pos rfl (Tel.step ?_))))))
  simp only [laws_FnExactLay.j0]
  refine Tel.neg (by simp) (Tel.bind hto (Tel.bind hq0 (Tel.pos rfl (Tel.bind hmk0 (Tel.neg (by simp only; omega) (Tel.bind hq (Tel.pos rfl (Tel.step ?_))))))))
  simp only [laws_FnExactLay.j1]
  refine Tel.neg (by simp) (Tel.bind hmk (Tel.bind hhe (Tel.neg (by omega) (Tel.pos rfl (Tel.bind hto (Tel.bind himpl (Tel.bind hq (Tel.pos rfl (Tel.step ?_)))))))))
  simp only [laws_FnExactLay.j2]
  exact Tel.neg (by simp) (Tel.bind hhe (Tel.neg (by omega) (Tel.pos rfl (Tel.ret _))))
end Go.Proofs.Ytplkhmfoehjaoaa.PFnExactLay
namespace Go.Proofs.Ytplkhmfoehjaoaa.PFnExactLay
open Go.RowKit
set_option linter.unusedVariables false
theorem pure_side (l : List ByteArray) (m : List S102) (a : Int) (s : ByteArray) (h0 : l.length * 16 ≤ 140737488351232 ∧ ∀ x ∈ l, x.size ≤ 140737488351232) (h1 : m.length * 24 ≤ 140737488351232 ∧ ∀ x ∈ m, (Lit.int .i64 x.f0).wf = true ∧ x.f1.size ≤ 140737488351232)
    (ha : (Lit.int .i64 a).wf = true) (hs : s.size ≤ 140737488351232) : ∃ k, laws_FnExactLay.f k l m a s = some true :=
  (law_true l m a s (by unfold B; omega) h0.2 (by unfold B; omega) (fun x hx => (h1.2 x hx).2)).get
end Go.Proofs.Ytplkhmfoehjaoaa.PFnExactLay
