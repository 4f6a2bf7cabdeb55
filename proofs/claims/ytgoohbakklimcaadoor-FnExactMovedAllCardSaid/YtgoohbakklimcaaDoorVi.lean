/- VS: functions by the machine. -/
import Derived.Test.YtgoohbakklimcaaDoorVh
import Derived.Test.YtgoohbakklimcaaDoorVg
import Derived.Lib.SplitLaws
set_option linter.unusedSimpArgs false
set_option linter.unusedVariables false
open Go.Proofs
set_option maxRecDepth 20000
namespace Go.VS
/-! ### Words between spaces -/
def noSp (w : List UInt8) : Prop := ∀ b ∈ w, b ≠ 32
theorem occ_no {w r : List UInt8} (h : noSp w) {j : Nat} (hj : j < w.length) : Lib.occAt (w ++ r) [32] j = false := by
  cases ho : Lib.occAt (w ++ r) [32] j
  · rfl
  · have := Lib.occAt_head (c := 32) (t := []) rfl ho
    rw [List.getElem?_append_left hj, List.getElem?_eq_getElem hj] at this
    exact absurd (Option.some.inj this) (h _ (List.getElem_mem hj))
theorem index_sp {w r : List UInt8} (h : noSp w) : Lib.index (w ++ 32 :: r) [32] = w.length :=
  Lib.index_first (by simp) (by simp [Lib.occAt]) fun j hj => occ_no h hj
theorem index_nosp {w : List UInt8} (h : noSp w) : Lib.index w [32] = -1 := Lib.index_none fun j hj => by
  by_cases hl : j < w.length
  · have := occ_no (r := []) h hl
    rwa [List.append_nil] at this
  · have : w.drop j = [] := List.drop_eq_nil_of_le (by omega)
    simp [Lib.occAt, this]
theorem count_nosp {w : List UInt8} (h : noSp w) : w.count 32 = 0 := List.count_eq_zero.2 fun hm => h _ hm rfl
theorem splitK_sp {w r : List UInt8} (h : noSp w) (k : Nat) : Lib.splitK [32] 0 (k + 1) (w ++ 32 :: r) = w :: Lib.splitK [32] 0 k r := by
  rw [Lib.splitK, index_sp h, if_neg (by simp)]
  simp
def four (a b c d : List UInt8) : List UInt8 := a ++ 32 :: (b ++ 32 :: (c ++ 32 :: d))
theorem split_four {a b c d : List UInt8} (ha : noSp a) (hb : noSp b) (hc : noSp c) (hd : noSp d) : Lib.split (four a b c d) [32] = [a, b, c, d] := by
  unfold Lib.split
  have hcount : Lib.count (four a b c d) [32] = 3 := by
    rw [Lib.count_one]
    simp [four, count_nosp ha, count_nosp hb, count_nosp hc, count_nosp hd]
  rw [hcount]
  unfold four
  rw [splitK_sp ha, splitK_sp hb, splitK_sp hc]
  rfl
/-- the words as the reference tells them -/
theorem wordsN_run {s : ByteArray} {p w r : List UInt8} (hs : s.data.toList = p ++ w ++ r) (h : noSp w) {ws : List ByteArray} (h0 : wordsN s p.length = (ws, p.length)) : ∀ j, j ≤ w.length → p.length + j ≤ s.size → wordsN s (p.length + j) = (ws, p.length)
  | 0, _, _ => h0
  | j + 1, hj, hl => by
    have ih := wordsN_run hs h h0 j (by omega) (by omega)
    rw [← Nat.add_assoc, wordsN, ih, if_neg]
    rintro (h1 | h1)
    · omega
    · have hq : s.data.toList.getD (p.length + j) 0 = w[j]'(by omega) := by
        rw [hs, List.append_assoc, List.getD_eq_getElem?_getD, List.getElem?_append_right (by omega), Nat.add_sub_cancel_left, List.getElem?_append_left (by omega), List.getElem?_eq_getElem (by omega)]
        rfl
      rw [hq] at h1
      have h2 := h _ (List.getElem_mem (l := w) (by omega : j < w.length))
      apply h2
      apply UInt8.toNat_inj.1
      have : (32 : UInt8).toNat = 32 := rfl
      omega
theorem extract_mid {s : ByteArray} {p w r : List UInt8} (hs : s.data.toList = p ++ w ++ r) : s.extract p.length (p.length + w.length) = ⟨w.toArray⟩ := by
  apply bext
  show (s.extract p.length (p.length + w.length)).data.toList = w
  rw [ByteArray.data_extract, Array.toList_extract, hs]
  simp
theorem wordsN_word {s : ByteArray} {p w r : List UInt8} (hs : s.data.toList = p ++ w ++ 32 :: r) (h : noSp w) {ws : List ByteArray} (h0 : wordsN s p.length = (ws, p.length)) : wordsN s (p ++ w ++ [32]).length = (ws ++ [⟨w.toArray⟩], (p ++ w ++ [32]).length) := by
  have hsz : s.size = p.length + w.length + (r.length + 1) := by rw [bsz, hs]; simp; omega
  have h1 := wordsN_run hs h h0 w.length (Nat.le_refl _) (by omega)
  have hl : (p ++ w ++ [32]).length = p.length + w.length + 1 := by simp; omega
  rw [hl, wordsN, h1, if_pos, extract_mid hs]
  right
  have : s.data.toList.getD (p.length + w.length) 0 = 32 := by
    rw [hs, List.getD_eq_getElem?_getD, List.getElem?_append_right (by simp)]
    simp
  rw [this]
  rfl
theorem wordsB_four {s : ByteArray} {a b c d : List UInt8} (hs : s.data.toList = four a b c d) (ha : noSp a) (hb : noSp b) (hc : noSp c) (hd : noSp d) : wordsB s = [⟨a.toArray⟩, ⟨b.toArray⟩, ⟨c.toArray⟩, ⟨d.toArray⟩] := by
  have h1 := wordsN_word (p := []) (w := a) (r := b ++ 32 :: (c ++ 32 :: d)) (by rw [hs]; rfl) ha (ws := []) rfl
  have h2 := wordsN_word (p := [] ++ a ++ [32]) (w := b) (r := c ++ 32 :: d) (by rw [hs]; simp [four]) hb h1
  have h3 := wordsN_word (p := [] ++ a ++ [32] ++ b ++ [32]) (w := c) (r := d) (by rw [hs]; simp [four]) hc h2
  have hs4 : s.data.toList = ([] ++ a ++ [32] ++ b ++ [32] ++ c ++ [32]) ++ d ++ [] := by rw [hs]; simp [four]
  have hsz : s.size = ([] ++ a ++ [32] ++ b ++ [32] ++ c ++ [32]).length + d.length := by rw [bsz, hs4]; simp; omega
  have h4 := wordsN_run hs4 hd h3 d.length (Nat.le_refl _) (by omega)
  rw [← hsz] at h4
  unfold wordsB
  rw [wordsN, h4, if_pos (.inl rfl), hsz, extract_mid hs4]
  rfl
/-- the pieces of strings.Split -/
def pcs (s : ByteArray) : List ByteArray := Lib.splitB ⟨#[32]⟩ 0 (Lib.countB s ⟨#[32]⟩) s
theorem pcs_four {s : ByteArray} {a b c d : List UInt8} (hs : s.data.toList = four a b c d) (ha : noSp a) (hb : noSp b) (hc : noSp c) (hd : noSp d) : pcs s = [⟨a.toArray⟩, ⟨b.toArray⟩, ⟨c.toArray⟩, ⟨d.toArray⟩] := by
  have h1 : (pcs s).map (fun x => x.data.toList) = [a, b, c, d] := by
    have h2 := Lib.splitB_data ⟨#[32]⟩ 0 (Lib.countB s ⟨#[32]⟩) s
    have h3 := split_four ha hb hc hd
    unfold Lib.split at h3
    rw [← hs] at h3
    exact h2.trans h3
  have h4 : pcs s = ((pcs s).map (fun x => x.data.toList)).map (fun l => (⟨l.toArray⟩ : ByteArray)) := by
    rw [List.map_map]
    conv => lhs; rw [← List.map_id (pcs s)]
    exact List.map_congr_left fun x _ => by cases x; rfl
  rw [h4, h1]
  rfl
/-! ### Moves -/
structure Mv where
  src : Int
  dst : Int
  sum : Int
  cnt : Int
  deriving DecidableEq
instance : Inhabited Mv := ⟨⟨0, 0, 0, 0⟩⟩
def Mv.enc (m : Mv) : AVal := .agg [.lit (.int .i64 m.src), .lit (.int .i64 m.dst), .lit (.int .i64 m.sum), .lit (.int .i64 m.cnt)]
theorem Mv.enc_eq {m : Mv} : Mv.enc m = .agg [.lit (.int .i64 m.src), .lit (.int .i64 m.dst), .lit (.int .i64 m.sum), .lit (.int .i64 m.cnt)] := nr rfl
attribute [go_sem] Mv.enc_eq
end Go.VS

set_option linter.unusedSimpArgs false
set_option linter.unusedVariables false
open Go.Proofs
set_option maxRecDepth 20000
namespace Go.VS
theorem decDigits_dig (u : Nat) : ∀ b ∈ Lib.decDigits u, 48 ≤ b.toNat ∧ b.toNat ≤ 57 := by
  induction u using Nat.strongRecOn with
  | _ u ih =>
    rw [Lib.decDigits]
    split
    · rename_i h1
      intro b hb
      rw [List.mem_singleton.1 hb, UInt8.toNat_ofNat']
      omega
    · rename_i h1
      intro b hb
      rcases List.mem_append.1 hb with hb | hb
      · exact ih (u / 10) (by omega) b hb
      · rw [List.mem_singleton.1 hb, UInt8.toNat_ofNat']
        omega
theorem dec_noSp (u : Nat) : noSp (Lib.decDigits u) := fun b hb h => by
  have := decDigits_dig u b hb
  rw [h] at this
  have h2 : (32 : UInt8).toNat = 32 := rfl
  omega
theorem itoaB_inj {k k' : Nat} (h : k < 10000000000) (h' : k' < 10000000000) (e : itoaB k = itoaB k') : k = k' := by
  have h1 := parse_itoaB h
  rw [e, parse_itoaB h'] at h1
  simp only [AVal.tup.injEq, List.cons.injEq, AVal.lit.injEq, Value.int.injEq, and_true, true_and] at h1
  omega
/-- is a move right? -/
def Mv.ok (m : Mv) : Bool := decide (0 ≤ m.src ∧ m.src ≤ 7) && (decide (0 ≤ m.dst ∧ m.dst ≤ 7) && (decide (1 ≤ m.sum ∧ m.sum ≤ 1000000000) && decide (0 ≤ m.cnt ∧ m.cnt ≤ 999999)))
theorem Mv.ok_iff {m : Mv} : m.ok = true ↔ (0 ≤ m.src ∧ m.src ≤ 7) ∧ (0 ≤ m.dst ∧ m.dst ≤ 7) ∧ (1 ≤ m.sum ∧ m.sum ≤ 1000000000) ∧ (0 ≤ m.cnt ∧ m.cnt ≤ 999999) := by
  simp only [Mv.ok, Bool.and_eq_true, decide_eq_true_eq]
def Mv.shB (m : Mv) : ByteArray := itoaB m.src ++ ⟨#[32]⟩ ++ itoaB m.dst ++ ⟨#[32]⟩ ++ itoaB m.sum ++ ⟨#[32]⟩ ++ itoaB m.cnt
def Mv.sh (m : Mv) : ByteArray := if m.ok = true then m.shB else ⟨#[]⟩
def wdD (n : Int) : List UInt8 := Lib.decDigits n.toNat
theorem itoaB_nn {n : Int} (h : 0 ≤ n) : (itoaB n).data.toList = wdD n := by
  obtain ⟨k, rfl⟩ := Int.eq_ofNat_of_zero_le h
  exact itoaB_toList k
theorem itoaB_wd {n : Int} (h : 0 ≤ n) : (⟨(wdD n).toArray⟩ : ByteArray) = itoaB n := bext (by rw [itoaB_nn h])
theorem data_app (s t : ByteArray) : (s ++ t).data.toList = s.data.toList ++ t.data.toList := by simp
theorem Mv.sh_list {m : Mv} (h : m.ok = true) : m.sh.data.toList = four (wdD m.src) (wdD m.dst) (wdD m.sum) (wdD m.cnt) := by
  obtain ⟨h1, h2, h3, h4⟩ := Mv.ok_iff.1 h
  rw [Mv.sh, if_pos h, Mv.shB]
  simp only [data_app, itoaB_nn h1.1, itoaB_nn h2.1, itoaB_nn (show 0 ≤ m.sum by omega), itoaB_nn h4.1, four, List.append_assoc, List.cons_append, List.nil_append]
theorem Mv.sh_pcs {m : Mv} (h : m.ok = true) : pcs m.sh = [itoaB m.src, itoaB m.dst, itoaB m.sum, itoaB m.cnt] := by
  obtain ⟨h1, h2, h3, h4⟩ := Mv.ok_iff.1 h
  rw [pcs_four (Mv.sh_list h) (dec_noSp _) (dec_noSp _) (dec_noSp _) (dec_noSp _), itoaB_wd h1.1, itoaB_wd h2.1, itoaB_wd (show 0 ≤ m.sum by omega), itoaB_wd h4.1]
theorem Mv.sh_wds {m : Mv} (h : m.ok = true) : wordsB m.sh = [itoaB m.src, itoaB m.dst, itoaB m.sum, itoaB m.cnt] := by
  obtain ⟨h1, h2, h3, h4⟩ := Mv.ok_iff.1 h
  rw [wordsB_four (Mv.sh_list h) (dec_noSp _) (dec_noSp _) (dec_noSp _) (dec_noSp _), itoaB_wd h1.1, itoaB_wd h2.1, itoaB_wd (show 0 ≤ m.sum by omega), itoaB_wd h4.1]
/-- a number that a word may be -/
def isNum (w : ByteArray) (n : Int) : Prop := ∀ k : Nat, k < 10000000000 → w = itoaB k → n = k
theorem isNum.eq {n x : Int} (h : isNum (itoaB x) n) (h0 : 0 ≤ x) (h1 : x < 10000000000) : n = x := by
  obtain ⟨k, rfl⟩ := Int.eq_ofNat_of_zero_le h0
  exact h k (by omega) rfl
/-- the numbers of the first words -/
def areN (ws : List ByteArray) (ns : List Int) : Prop := ∀ j, j < ns.length → isNum (ws.getD j default) (ns.getD j default)
theorem areN.nil {ws : List ByteArray} : areN ws [] := fun j hj => by simp at hj
theorem areN.app {ws : List ByteArray} {ns : List Int} (h : areN ws ns) {n : Int} (hn : isNum (ws.getD ns.length default) n) : areN ws (ns ++ [n]) := fun j hj => by
  by_cases hl : j < ns.length
  · have : (ns ++ [n]).getD j default = ns.getD j default := by simp [List.getD, List.getElem?_append_left hl]
    rw [this]
    exact h j hl
  · have e : j = ns.length := by simp at hj; omega
    subst e
    have : (ns ++ [n]).getD ns.length default = n := by simp [List.getD]
    rw [this]
    exact hn
theorem Mv.eq_of {m : Mv} (h : m.ok = true) {ns : List Int} (hn : areN [itoaB m.src, itoaB m.dst, itoaB m.sum, itoaB m.cnt] ns) (hl : ns.length = 4) : ns = [m.src, m.dst, m.sum, m.cnt] := by
  obtain ⟨h1, h2, h3, h4⟩ := Mv.ok_iff.1 h
  match ns, hl with
  | [a, b, c, d], _ =>
    have e1 : a = m.src := isNum.eq (hn 0 (by simp)) h1.1 (by omega)
    have e2 : b = m.dst := isNum.eq (hn 1 (by simp)) h2.1 (by omega)
    have e3 : c = m.sum := isNum.eq (hn 2 (by simp)) (by omega) (by omega)
    have e4 : d = m.cnt := isNum.eq (hn 3 (by simp)) h4.1 (by omega)
    rw [e1, e2, e3, e4]
theorem Mv.inj {m m' : Mv} (h : m.ok = true) (h' : m'.ok = true) (e : m.sh = m'.sh) : m = m' := by
  have h1 := Mv.sh_pcs h
  rw [e, Mv.sh_pcs h'] at h1
  obtain ⟨a1, a2, a3, a4⟩ := Mv.ok_iff.1 h
  obtain ⟨b1, b2, b3, b4⟩ := Mv.ok_iff.1 h'
  simp only [List.cons.injEq, and_true] at h1
  have key : ∀ x y : Int, 0 ≤ x → x < 10000000000 → 0 ≤ y → y < 10000000000 → itoaB x = itoaB y → x = y := fun x y hx hx2 hy hy2 e => by
    obtain ⟨k, rfl⟩ := Int.eq_ofNat_of_zero_le hx
    obtain ⟨k', rfl⟩ := Int.eq_ofNat_of_zero_le hy
    rw [itoaB_inj (by omega) (by omega) e]
  cases m
  cases m'
  simp only [Mv.mk.injEq] at *
  exact ⟨(key _ _ b1.1 (by omega) a1.1 (by omega) h1.1).symm, (key _ _ b2.1 (by omega) a2.1 (by omega) h1.2.1).symm, (key _ _ (by omega) (by omega) (by omega) (by omega) h1.2.2.1).symm, (key _ _ b4.1 (by omega) a4.1 (by omega) h1.2.2.2).symm⟩
theorem Mv.sh_ne {m : Mv} (h : m.ok = true) : m.sh ≠ ⟨#[]⟩ := fun e => by
  have h1 := Mv.sh_list h
  rw [e] at h1
  have := congrArg List.length h1
  simp [four] at this
open Classical in
/-- the move of a text -/
noncomputable def rdM (s : ByteArray) : Option Mv := if h : ∃ m : Mv, m.ok = true ∧ m.sh = s then some h.choose else none
theorem rdM_yes {m : Mv} {s : ByteArray} (h : m.ok = true) (e : m.sh = s) : rdM s = some m := by
  have hx : ∃ m : Mv, m.ok = true ∧ m.sh = s := ⟨m, h, e⟩
  rw [rdM, dif_pos hx, Mv.inj hx.choose_spec.1 h (hx.choose_spec.2.trans e.symm)]
theorem rdM_no {s : ByteArray} (h : ∀ m : Mv, m.ok = true → m.sh ≠ s) : rdM s = none := dif_neg fun ⟨m, h1, h2⟩ => h m h1 h2
/-- the answer of a reading -/
def rdA : Option Mv → AVal
  | some m => .tup [m.enc, .lit (.bool true)]
  | none => .tup [(⟨0, 0, 0, 0⟩ : Mv).enc, .lit (.bool false)]
theorem rdM_ok {s : ByteArray} {m : Mv} (h : rdM s = some m) : m.ok = true ∧ m.sh = s := by
  unfold rdM at h
  split at h
  · rename_i hx
    cases h
    exact hx.choose_spec
  · cases h
/-- how a reading ends -/
theorem rdM_end {s : ByteArray} {ws : List ByteArray} {ns : List Int} (hw : ∀ m : Mv, m.ok = true → m.sh = s → ws = [itoaB m.src, itoaB m.dst, itoaB m.sum, itoaB m.cnt]) (hn : areN ws ns) {a b c d : Int} (hl : ns = [a, b, c, d]) :
    ((⟨a, b, c, d⟩ : Mv).sh = s → s ≠ ⟨#[]⟩ → rdM s = some ⟨a, b, c, d⟩) ∧ ((⟨a, b, c, d⟩ : Mv).sh ≠ s → rdM s = none) := by
  subst hl
  constructor
  · intro h1 h2
    refine rdM_yes ?_ h1
    by_cases hk : (⟨a, b, c, d⟩ : Mv).ok = true
    · exact hk
    · exact absurd (by rw [← h1, Mv.sh, if_neg hk]) h2
  · intro h1
    refine rdM_no fun m hm e => h1 ?_
    have h2 := hw m hm e
    rw [h2] at hn
    have h3 := Mv.eq_of hm hn rfl
    simp only [List.cons.injEq, and_true] at h3
    obtain ⟨rfl, rfl, rfl, rfl⟩ := h3
    exact e
theorem rdM_len {s : ByteArray} {ws : List ByteArray} (hw : ∀ m : Mv, m.ok = true → m.sh = s → ws = [itoaB m.src, itoaB m.dst, itoaB m.sum, itoaB m.cnt]) (hl : ws.length ≠ 4) : rdM s = none := rdM_no fun m hm e => hl (by rw [hw m hm e]; rfl)
theorem rdM_nil : rdM ⟨#[]⟩ = none := rdM_no fun m hm e => Mv.sh_ne hm e
end Go.VS
