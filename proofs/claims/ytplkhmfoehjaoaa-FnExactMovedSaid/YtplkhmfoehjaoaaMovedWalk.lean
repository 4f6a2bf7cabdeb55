/- The law FnExactMoved, walked: every call has a known answer, and the answer of the law is true. -/
import Derived.Test.YtplkhmfoehjaoaaMovedPure
import Derived.Test.YtplkhmfoehjaoaaBase2
import Derived.Deep.RegionHeld3
namespace Go.Proofs.Ytplkhmfoehjaoaa.PFnExactMoved
open Go.RowKit Go.Proofs.YtplkhmfoehjaoaaW.PrintWords Go.Proofs.YtplkhmfoehjaoaaW.PrintLast Go.Proofs.YtplkhmfoehjaoaaW.PrintMore
open Base Law
set_option linter.unusedVariables false
set_option linter.unusedSimpArgs false
set_option maxHeartbeats 8000000 in
set_option maxRecDepth 100000 in
theorem law_walk (A0x : Option Addr) (c0x : Nat) (l : List Int) (A1x : Option Addr) (c1x : Nat) (m : List Int) (a b c d : Int) (w : World)
    (hr0 : Kd.C (Kd.int .i64) w A0x l.length l) (hc0 : l.length ≤ c0x) (hr1 : Kd.C (Kd.int .i64) w A1x m.length m) (hc1 : m.length ≤ c1x) :
    Calls Try.prog 3 #[.agg #[.slice A0x l.length c0x, .slice A1x m.length c1x], .agg #[.int .i64 a, .int .i64 b, .int .i64 c, .int .i64 d]] w fun e w' => e = .returned (.bool true) ∧ Below w.heap.size w w' := by
  obtain ⟨t, ht, hlen⟩ := szBank_eq l m hr0.2.1 hr1.2.1
  have HR0 := Aside0.mk hr0
  have HR1 := Aside0.mk hr1
  have HC0 := Aside0.mk hc0
  have HC1 := Aside0.mk hc1
  clear hr0 hr1 hc0 hc1
  have HSZ := Aside0.mk ht
  clear ht
  by_cases h0 : t < 0
  · have h0' : decide (t < 0) = true := decide_eq_true h0
    clear h0 hlen
    go_enter Try.func3, Try.ntmps3
    go_upto_region 1 with (fail)
    have HS : All [Fact.bx (w.heap.size + 1) 26 #[.int .i64 a, .int .i64 b, .int .i64 c, .int .i64 d], Fact.bx w.heap.size 24 #[.slice A0x l.length c0x, .slice A1x m.length c1x]] ((w.alloc (.cells #[.slice A0x l.length c0x, .slice A1x m.length c1x] 24)).alloc (.cells #[.int .i64 a, .int .i64 b, .int .i64 c, .int .i64 d] 26)) := by simpa using (((All.nil w).alloc #[.slice A0x l.length c0x, .slice A1x m.length c1x] 24).alloc #[.int .i64 a, .int .i64 b, .int .i64 c, .int .i64 d] 26)
    have HB : Aside0 (Below w.heap.size w ((w.alloc (.cells #[.slice A0x l.length c0x, .slice A1x m.length c1x] 24)).alloc (.cells #[.int .i64 a, .int .i64 b, .int .i64 c, .int .i64 d] 26))) := ⟨(below_alloc (below_alloc (Below.refl _ _) _) _)⟩
    have HZ : w.heap.size + 2 ≤ ((w.alloc (.cells #[.slice A0x l.length c0x, .slice A1x m.length c1x] 24)).alloc (.cells #[.int .i64 a, .int .i64 b, .int .i64 c, .int .i64 d] 26)).heap.size := by simp
    generalize ((w.alloc (.cells #[.slice A0x l.length c0x, .slice A1x m.length c1x] 24)).alloc (.cells #[.int .i64 a, .int .i64 b, .int .i64 c, .int .i64 d] 26)) = w1 at HS HB HZ ⊢
    go_upto_region 2 with (fail)
    have hl1_0 := box_cell (HS.get 1 rfl) 0
    have hl1_1 := box_cell (HS.get 1 rfl) 1
    go_upto_region 3 with (first | (go_at_call 6; refine (laws_szBank.calls _ _ (l) _ _ (m) (1048576) (t) _ (Kd.C_below HR0.out HB.out) HC0.out (Kd.C_below HR1.out HB.out) HC1.out HSZ.out).mono ?_; rintro e v2 ⟨rfl, hbv2⟩; have HZ := Nat.le_trans HZ hbv2.size; have HS := HS.below hbv2; have HB := Aside0.mk (bthen HB.out hbv2); clear hbv2))
    clear hl1_0 hl1_1
    go_upto_region 4 with (fail)
    go_wp2
    go_ret
    exact ⟨rfl, HB.out⟩
  · have hl := hlen (by omega)
    have h0' : decide (t < 0) = false := decide_eq_false h0
    clear h0 hlen
    obtain ⟨kb, hkb⟩ := toBank_eq l m (by omega) (by omega)
    obtain ⟨ks, hks⟩ := specMoved_eq l m a b c d
    obtain ⟨ki, hki⟩ := implMoved_eq l m a b c d
    have hlm := moved_len l m a b c d
    generalize moved l m a b c d = r at hks hki hlm
    obtain ⟨r1, r2, r3⟩ := r
    obtain ⟨hl1, hl2⟩ : r1.length ≤ 8 ∧ r2.length ≤ 8 := hlm
    obtain ⟨ke, hke⟩ := eqBank_eq l m (by omega) (by omega)
    obtain ⟨kr, hkr⟩ := eqBank_eq r1 r2 (by omega) (by omega)
    obtain ⟨kx, hkx⟩ := markBank_eq l m (by omega)
    obtain ⟨kg, hkg⟩ := markBank_eq r1 r2 (by omega)
    obtain ⟨kh, hkh⟩ := heldBank_eq r1.length r2.length (by omega)
    have hpx : 0 ≤ 1 + (l.length : Int) + m.length := by omega
    have hpg : 0 ≤ 1 + (r1.length : Int) + r2.length := by omega
    have ex1 := marks_length l.length 1
    have ex2 := marks_length m.length (1 + l.length)
    have eg1 := marks_length r1.length 1
    have eg2 := marks_length r2.length (1 + r1.length)
    generalize marks 1 l.length = mx1 at hkx ex1
    generalize marks (1 + l.length) m.length = mx2 at hkx ex2
    generalize marks 1 r1.length = mg1 at hkg hkh eg1
    generalize marks (1 + r1.length) r2.length = mg2 at hkg hkh eg2
    generalize 1 + (l.length : Int) + m.length = px at hkx hpx
    generalize 1 + (r1.length : Int) + r2.length = pg at hkg hkh hpg
    have hpx' : decide (px < 0) = false := decide_eq_false (by omega)
    have hpg' : decide (pg < 0) = false := decide_eq_false (by omega)
    have EX1 := Aside0.mk ex1
    have EX2 := Aside0.mk ex2
    have EG1 := Aside0.mk eg1
    have EG2 := Aside0.mk eg2
    have KI := Aside0.mk hki
    have KB := Aside0.mk hkb
    have KS := Aside0.mk hks
    have KE := Aside0.mk hke
    have KR := Aside0.mk hkr
    have KX := Aside0.mk hkx
    have KG := Aside0.mk hkg
    have KH := Aside0.mk hkh
    clear ex1 ex2 eg1 eg2 hki hkb hks hke hkr hkx hkg hkh hl hl1 hl2 hpx hpg
    go_enter Try.func3, Try.ntmps3
    go_upto_region 1 with (fail)
    have HS : All [Fact.bx (w.heap.size + 1) 26 #[.int .i64 a, .int .i64 b, .int .i64 c, .int .i64 d], Fact.bx w.heap.size 24 #[.slice A0x l.length c0x, .slice A1x m.length c1x]] ((w.alloc (.cells #[.slice A0x l.length c0x, .slice A1x m.length c1x] 24)).alloc (.cells #[.int .i64 a, .int .i64 b, .int .i64 c, .int .i64 d] 26)) := by simpa using (((All.nil w).alloc #[.slice A0x l.length c0x, .slice A1x m.length c1x] 24).alloc #[.int .i64 a, .int .i64 b, .int .i64 c, .int .i64 d] 26)
    have HB : Aside0 (Below w.heap.size w ((w.alloc (.cells #[.slice A0x l.length c0x, .slice A1x m.length c1x] 24)).alloc (.cells #[.int .i64 a, .int .i64 b, .int .i64 c, .int .i64 d] 26))) := ⟨(below_alloc (below_alloc (Below.refl _ _) _) _)⟩
    have HZ : w.heap.size + 2 ≤ ((w.alloc (.cells #[.slice A0x l.length c0x, .slice A1x m.length c1x] 24)).alloc (.cells #[.int .i64 a, .int .i64 b, .int .i64 c, .int .i64 d] 26)).heap.size := by simp
    generalize ((w.alloc (.cells #[.slice A0x l.length c0x, .slice A1x m.length c1x] 24)).alloc (.cells #[.int .i64 a, .int .i64 b, .int .i64 c, .int .i64 d] 26)) = w1 at HS HB HZ ⊢
    go_upto_region 2 with (fail)
    have hl1_0 := box_cell (HS.get 1 rfl) 0
    have hl1_1 := box_cell (HS.get 1 rfl) 1
    go_upto_region 3 with (first | (go_at_call 6; refine (laws_szBank.calls _ _ (l) _ _ (m) (1048576) (t) _ (Kd.C_below HR0.out HB.out) HC0.out (Kd.C_below HR1.out HB.out) HC1.out HSZ.out).mono ?_; rintro e v2 ⟨rfl, hbv2⟩; have HZ := Nat.le_trans HZ hbv2.size; have HS := HS.below hbv2; have HB := Aside0.mk (bthen HB.out hbv2); clear hbv2))
    clear hl1_0 hl1_1
    go_upto_region 5 with (fail)
    go_upto_region 5 with (fail)
    go_cut [6, 7] (fun s6 s7 wx => ∃ (g6 n8 n9 : Nat) (A3 : Option Addr) (c3 : Nat) (A4 : Option Addr) (c4 : Nat), s6 = .pointer (some ⟨g6, 0, none⟩) ∧ s7 = .int .i64 r3 ∧ Aside0 (Below w.heap.size w wx) ∧ Aside0 ((w.heap.size + 2) ≤ n8 ∧ n8 ≤ n9 ∧ n9 ≤ wx.heap.size ∧ (w.heap.size + 2) ≤ g6 ∧ g6 + 1 ≤ wx.heap.size ∧ (g6 + 1 ≤ n8 ∨ n9 ≤ g6)) ∧ All [Fact.bx g6 28 #[.slice A3 r1.length c3, .slice A4 r2.length c4], rowsFact2 w.heap.size n8 n9 (Kd.int .i64) 2 (.slice A3 r1.length c3) r1 (Kd.int .i64) 2 (.slice A4 r2.length c4) r2, Fact.bx (w.heap.size + 1) 26 #[.int .i64 a, .int .i64 b, .int .i64 c, .int .i64 d], Fact.bx w.heap.size 24 #[.slice A0x l.length c0x, .slice A1x m.length c1x]] wx)
    case first =>
      have hS1 : v2.cell? ⟨w.heap.size, 0, none⟩ = some (.slice A0x l.length c0x) ∧ v2.cell? ⟨w.heap.size, 1, none⟩ = some (.slice A1x m.length c1x) ∧ v2.cell? ⟨(w.heap.size + 1), 0, none⟩ = some (.int .i64 a) ∧ v2.cell? ⟨(w.heap.size + 1), 1, none⟩ = some (.int .i64 b) ∧ v2.cell? ⟨(w.heap.size + 1), 2, none⟩ = some (.int .i64 c) ∧ v2.cell? ⟨(w.heap.size + 1), 3, none⟩ = some (.int .i64 d) := ⟨box_cell (HS.get 1 rfl) 0, box_cell (HS.get 1 rfl) 1, box_cell (HS.get 0 rfl) 0, box_cell (HS.get 0 rfl) 1, box_cell (HS.get 0 rfl) 2, box_cell (HS.get 0 rfl) 3⟩
      have keepS : ∀ {W1 W2 : World}, Below W1.heap.size W1 W2 → (W1.cell? ⟨w.heap.size, 0, none⟩ = some (.slice A0x l.length c0x) ∧ W1.cell? ⟨w.heap.size, 1, none⟩ = some (.slice A1x m.length c1x) ∧ W1.cell? ⟨(w.heap.size + 1), 0, none⟩ = some (.int .i64 a) ∧ W1.cell? ⟨(w.heap.size + 1), 1, none⟩ = some (.int .i64 b) ∧ W1.cell? ⟨(w.heap.size + 1), 2, none⟩ = some (.int .i64 c) ∧ W1.cell? ⟨(w.heap.size + 1), 3, none⟩ = some (.int .i64 d)) → (W2.cell? ⟨w.heap.size, 0, none⟩ = some (.slice A0x l.length c0x) ∧ W2.cell? ⟨w.heap.size, 1, none⟩ = some (.slice A1x m.length c1x) ∧ W2.cell? ⟨(w.heap.size + 1), 0, none⟩ = some (.int .i64 a) ∧ W2.cell? ⟨(w.heap.size + 1), 1, none⟩ = some (.int .i64 b) ∧ W2.cell? ⟨(w.heap.size + 1), 2, none⟩ = some (.int .i64 c) ∧ W2.cell? ⟨(w.heap.size + 1), 3, none⟩ = some (.int .i64 d)) := fun hb ⟨h0, h1, h2, h3, h4, h5⟩ => ⟨pw_cell_below hb h0, pw_cell_below hb h1, pw_cell_below hb h2, pw_cell_below hb h3, pw_cell_below hb h4, pw_cell_below hb h5⟩
      go_region_held3 (fun w' => w'.cell? ⟨w.heap.size, 0, none⟩ = some (.slice A0x l.length c0x) ∧ w'.cell? ⟨w.heap.size, 1, none⟩ = some (.slice A1x m.length c1x) ∧ w'.cell? ⟨(w.heap.size + 1), 0, none⟩ = some (.int .i64 a) ∧ w'.cell? ⟨(w.heap.size + 1), 1, none⟩ = some (.int .i64 b) ∧ w'.cell? ⟨(w.heap.size + 1), 2, none⟩ = some (.int .i64 c) ∧ w'.cell? ⟨(w.heap.size + 1), 3, none⟩ = some (.int .i64 d))
        (first | exact hS1 | (refine keepS ?_ hS1; (repeat (first | exact Below.refl _ _ | refine bthen ?_ Bv5 | refine bthen ?_ Bv4 | refine bthen ?_ Bv3 | refine below_alloc ?_ _ | refine bdrew ?_ | refine bset ?_ ?_ _)); (all_goals (first | omega | exact Nat.le_refl _ | (dsimp only; omega)))))
        ((first
            | (go_at_call 8; refine (laws_toBank.calls kb _ _ (l) _ _ (m) (l) (m) _ (Kd.C_below HR0.out (bthen HB.out ?s1)) HC0.out (Kd.C_below HR1.out (bthen HB.out ?s2)) HC1.out KB.out).mono ?_; (case s1 => (repeat (first | exact Below.refl _ _ | refine below_alloc ?_ _ | refine bdrew ?_ | refine bset ?_ ?_ _)); (all_goals (first | omega | exact Nat.le_refl _ | (dsimp only; omega)))); (case s2 => (repeat (first | exact Below.refl _ _ | refine below_alloc ?_ _ | refine bdrew ?_ | refine bset ?_ ?_ _)); (all_goals (first | omega | exact Nat.le_refl _ | (dsimp only; omega)))); rintro e v3 ⟨u1, u2, rfl, ho1, ho2, hbv3⟩; obtain ⟨A1, c1, rfl, hc1⟩ := R_mk ho1; obtain ⟨A2, c2, rfl, hc2⟩ := R_mk ho2; have Bv3 : Below v2.heap.size v2 v3 := (by first | exact bthen (bdrew (Below.refl _ _)) hbv3 | exact bthen (below_alloc (bdrew (Below.refl _ _)) _) hbv3); obtain ⟨hxv3, hyv3⟩ := bcell hbv3; have hzv3 := Bv3.size; have hqv3 := hbv3.size; (try simp at hqv3); (try have hpv2_v3 : v2.heap.size < v3.heap.size := (by omega)); clear hqv3)
            | (go_at_call 9; refine (laws_toMove.calls (a) (b) (c) (d) (a) (b) (c) (d) _ rfl).mono ?_; rintro e v4 ⟨rfl, hbv4⟩; have Bv4 : Below v3.heap.size v3 v4 := (by first | exact hbv4 | exact bthen (below_alloc (Below.refl _ _) _) hbv4); obtain ⟨hxv4, hyv4⟩ := bcell hbv4; have hzv4 := Bv4.size; have hqv4 := hbv4.size; (try simp at hqv4); (try have hpv2_v4 : v2.heap.size < v4.heap.size := (by omega)); (try have hpv3_v4 : v3.heap.size < v4.heap.size := (by omega)); clear hqv4)
            | (go_at_call 7; refine (spec_Moved.calls ks _ _ (l) _ _ (m) (a) (b) (c) (d) (r1) (r2) (r3) _ (Kd.R_reads' (Kd.R_below ho1 ?s1)).2.2 (Kd.R_reads' ho1).2.1 (Kd.R_reads' (Kd.R_below ho2 ?s2)).2.2 (Kd.R_reads' ho2).2.1 KS.out).mono ?_; (case s1 => (repeat (first | exact Below.refl _ _ | refine bthen ?_ Bv4 | refine bthen ?_ Bv3 | refine below_alloc ?_ _ | refine bdrew ?_ | refine bset ?_ ?_ _)); (all_goals (first | omega | exact Nat.le_refl _ | (dsimp only; omega)))); (case s2 => (repeat (first | exact Below.refl _ _ | refine bthen ?_ Bv4 | refine bthen ?_ Bv3 | refine below_alloc ?_ _ | refine bdrew ?_ | refine bset ?_ ?_ _)); (all_goals (first | omega | exact Nat.le_refl _ | (dsimp only; omega)))); rintro e v5 ⟨u3, u4, rfl, ho3, ho4, hbv5⟩; obtain ⟨A3, c3, rfl, hc3⟩ := R_mk ho3; obtain ⟨A4, c4, rfl, hc4⟩ := R_mk ho4; have Bv5 : Below v4.heap.size v4 v5 := (by first | exact hbv5 | exact bthen (below_alloc (Below.refl _ _) _) hbv5); obtain ⟨hxv5, hyv5⟩ := bcell hbv5; have hzv5 := Bv5.size; have hqv5 := hbv5.size; (try simp at hqv5); (try have hpv2_v5 : v2.heap.size < v5.heap.size := (by omega)); (try have hpv3_v5 : v3.heap.size < v5.heap.size := (by omega)); (try have hpv4_v5 : v4.heap.size < v5.heap.size := (by omega)); clear hqv5)))
      all_goals (go_wp2_with fail)
      all_goals go_meet
      · have hw := HB.out.size
        refine ⟨v5.heap.size, v4.heap.size, v5.heap.size, A3, c3, A4, c4, rfl, rfl, ⟨bthen HB.out (below_alloc (bthen (bthen (Bv3) Bv4) Bv5) _)⟩, ⟨?_⟩, ?_⟩
        · rw [alloc_size]; omega
        · exact HS.late (bthen (bthen (Bv3) Bv4) Bv5) (show (rowsFact2 w.heap.size v4.heap.size v5.heap.size (Kd.int .i64) 2 (.slice A3 r1.length c3) r1 (Kd.int .i64) 2 (.slice A4 r2.length c4) r2).P v5 from ⟨R_later rfl ho3 (by first | omega | (rw [alloc_size]; omega)) (fun _ _ _ => rfl) (fun k h1 h2 => ⟨by first | omega | (rw [alloc_size] at h1; omega), h2⟩), R_later rfl ho4 (by first | omega | (rw [alloc_size]; omega)) (fun _ _ _ => rfl) (fun k h1 h2 => ⟨by first | omega | (rw [alloc_size] at h1; omega), h2⟩), (ap_ne ho3.1)⟩) _ _
      · have hw := HB.out.size
        refine ⟨v4.heap.size, (v4.heap.size + 1), v5.heap.size, A3, c3, A4, c4, rfl, rfl, ⟨bthen HB.out (bset (bset (bthen (bthen (Bv3) Bv4) Bv5) (a := ⟨v4.heap.size, 0, none⟩) (by dsimp only; first | omega | exact Nat.le_refl _) _) (a := ⟨v4.heap.size, 1, none⟩) (by dsimp only; first | omega | exact Nat.le_refl _) _)⟩, ⟨?_⟩, ?_⟩
        · rw [set_size]; rw [set_size]; omega
        · exact HS.early (bset (bset (bthen (bthen (Bv3) Bv4) Bv5) (a := ⟨v4.heap.size, 0, none⟩) (by dsimp only; first | omega | exact Nat.le_refl _) _) (a := ⟨v4.heap.size, 1, none⟩) (by dsimp only; first | omega | exact Nat.le_refl _) _) (show (rowsFact2 w.heap.size (v4.heap.size + 1) v5.heap.size (Kd.int .i64) 2 (.slice A3 r1.length c3) r1 (Kd.int .i64) 2 (.slice A4 r2.length c4) r2).P v5 from ⟨R_later rfl ho3 (by first | omega | (rw [alloc_size]; omega)) (fun _ _ _ => rfl) (fun k h1 h2 => ⟨by first | omega | (rw [alloc_size] at h1; omega), h2⟩), R_later rfl ho4 (by first | omega | (rw [alloc_size]; omega)) (fun _ _ _ => rfl) (fun k h1 h2 => ⟨by first | omega | (rw [alloc_size] at h1; omega), h2⟩), (ap_ne ho3.1)⟩) (fun k hk => ((set_other _ _ _ _ k hk).trans (set_other _ _ _ _ k hk))) (fun k hk => Nat.lt_of_lt_of_le (by first | omega | exact Nat.lt_succ_self _) hk.1) (box_set (box_set (blk_below (heap_alloc_new v4 _) hbv5) 0 _) 1 _)
      · have hw := HB.out.size
        refine ⟨v3.heap.size, v4.heap.size, v5.heap.size, A3, c3, A4, c4, rfl, rfl, ⟨bthen HB.out (bset (bset (bthen (bthen (Bv3) Bv4) Bv5) (a := ⟨v3.heap.size, 0, none⟩) (by dsimp only; first | omega | exact Nat.le_refl _) _) (a := ⟨v3.heap.size, 1, none⟩) (by dsimp only; first | omega | exact Nat.le_refl _) _)⟩, ⟨?_⟩, ?_⟩
        · rw [set_size]; rw [set_size]; omega
        · exact HS.early (bset (bset (bthen (bthen (Bv3) Bv4) Bv5) (a := ⟨v3.heap.size, 0, none⟩) (by dsimp only; first | omega | exact Nat.le_refl _) _) (a := ⟨v3.heap.size, 1, none⟩) (by dsimp only; first | omega | exact Nat.le_refl _) _) (show (rowsFact2 w.heap.size v4.heap.size v5.heap.size (Kd.int .i64) 2 (.slice A3 r1.length c3) r1 (Kd.int .i64) 2 (.slice A4 r2.length c4) r2).P v5 from ⟨R_later rfl ho3 (by first | omega | (rw [alloc_size]; omega)) (fun _ _ _ => rfl) (fun k h1 h2 => ⟨by first | omega | (rw [alloc_size] at h1; omega), h2⟩), R_later rfl ho4 (by first | omega | (rw [alloc_size]; omega)) (fun _ _ _ => rfl) (fun k h1 h2 => ⟨by first | omega | (rw [alloc_size] at h1; omega), h2⟩), (ap_ne ho3.1)⟩) (fun k hk => ((set_other _ _ _ _ k hk).trans (set_other _ _ _ _ k hk))) (fun k hk => Nat.lt_of_lt_of_le (by first | omega | exact Nat.lt_succ_self _) hk.1) (box_set (box_set (blk_below (blk_below (heap_alloc_new v3 _) hbv4) hbv5) 0 _) 1 _)
      · have hw := HB.out.size
        refine ⟨v2.heap.size, v4.heap.size, v5.heap.size, A3, c3, A4, c4, rfl, rfl, ⟨bthen HB.out (bset (bset (bthen (bthen (Bv3) Bv4) Bv5) (a := ⟨v2.heap.size, 0, none⟩) (by dsimp only; first | omega | exact Nat.le_refl _) _) (a := ⟨v2.heap.size, 1, none⟩) (by dsimp only; first | omega | exact Nat.le_refl _) _)⟩, ⟨?_⟩, ?_⟩
        · rw [set_size]; rw [set_size]; omega
        · exact HS.early (bset (bset (bthen (bthen (Bv3) Bv4) Bv5) (a := ⟨v2.heap.size, 0, none⟩) (by dsimp only; first | omega | exact Nat.le_refl _) _) (a := ⟨v2.heap.size, 1, none⟩) (by dsimp only; first | omega | exact Nat.le_refl _) _) (show (rowsFact2 w.heap.size v4.heap.size v5.heap.size (Kd.int .i64) 2 (.slice A3 r1.length c3) r1 (Kd.int .i64) 2 (.slice A4 r2.length c4) r2).P v5 from ⟨R_later rfl ho3 (by first | omega | (rw [alloc_size]; omega)) (fun _ _ _ => rfl) (fun k h1 h2 => ⟨by first | omega | (rw [alloc_size] at h1; omega), h2⟩), R_later rfl ho4 (by first | omega | (rw [alloc_size]; omega)) (fun _ _ _ => rfl) (fun k h1 h2 => ⟨by first | omega | (rw [alloc_size] at h1; omega), h2⟩), (ap_ne ho3.1)⟩) (fun k hk => ((set_other _ _ _ _ k hk).trans (set_other _ _ _ _ k hk))) (fun k hk => Nat.lt_of_lt_of_le (by first | omega | exact Nat.lt_succ_self _) hk.1) (box_set (box_set (blk_below (blk_below (blk_below (heap_alloc_new v2.drew _) hbv3) hbv4) hbv5) 0 _) 1 _)
    case rest =>
      obtain ⟨g6, n8, n9, A3, c3, A4, c4, rfl, rfl, HB, HZ', HS⟩ := hcut
      obtain ⟨hz1_g6, hz2_g6, hz3_g6, hz4_g6, hz5_g6, hz6_g6⟩ := HZ'.out
      clear HZ'
      obtain ⟨n10, hz7_g6, hz8_g6, HZ⟩ : ∃ n, n9 ≤ n ∧ g6 + 1 ≤ n ∧ n ≤ wc.heap.size := ⟨_, hz3_g6, hz5_g6, Nat.le_refl _⟩
      clear hz3_g6 hz5_g6
      obtain ⟨w7, rfl⟩ : ∃ x : World, x = wc := ⟨_, rfl⟩
      have hl1_0 := box_cell (HS.get 3 rfl) 0
      have hl1_1 := box_cell (HS.get 3 rfl) 1
      go_upto_region 7 with (first | (go_at_call 8; refine (laws_toBank.calls kb _ _ (l) _ _ (m) (l) (m) _ (Kd.C_below HR0.out HB.out) HC0.out (Kd.C_below HR1.out HB.out) HC1.out KB.out).mono ?_; rintro e v11 ⟨u5, u6, rfl, ho5, ho6, hbv11⟩; obtain ⟨A5, c5, rfl, hc5⟩ := R_mk ho5; obtain ⟨A6, c6, rfl, hc6⟩ := R_mk ho6; obtain ⟨n12, n13, hmn12, hnn12, HZ', HS'⟩ := HS.make2 hbv11 HZ HB.out.size rfl rfl ho5 ho6 (ap_ne ho5.1); clear HS HZ ho5 ho6; have HS := HS'; have HZ := HZ'; clear HS' HZ'; have HB := Aside0.mk (bthen HB.out hbv11); clear hbv11))
      clear hl1_0 hl1_1
      have HS := HS.alloc #[.slice A5 l.length c5, .slice A6 m.length c6] 28
      have HB := Aside0.mk (below_alloc HB.out (.cells #[.slice A5 l.length c5, .slice A6 m.length c6] 28))
      have HZ' : v11.heap.size + 1 ≤ (v11.alloc (.cells #[.slice A5 l.length c5, .slice A6 m.length c6] 28)).heap.size := by simp
      generalize v11.alloc (.cells #[.slice A5 l.length c5, .slice A6 m.length c6] 28) = w15 at HS HB HZ' ⊢
      generalize v11.heap.size = g14 at HS HZ HZ' ⊢
      have hog14 := HZ
      clear HZ
      have HZ := HZ'
      clear HZ'
      go_upto_region 7 with (fail)
      go_cut [9, 10] (fun s9 s10 wx => ∃ (g18 n20 n21 : Nat) (A7 : Option Addr) (c7 : Nat) (A8 : Option Addr) (c8 : Nat), s9 = .pointer (some ⟨g18, 0, none⟩) ∧ s10 = .int .i64 r3 ∧ Aside0 (Below w.heap.size w wx) ∧ Aside0 ((g14 + 1) ≤ n20 ∧ n20 ≤ n21 ∧ n21 ≤ wx.heap.size ∧ (g14 + 1) ≤ g18 ∧ g18 + 1 ≤ wx.heap.size ∧ (g18 + 1 ≤ n20 ∨ n21 ≤ g18)) ∧ All [Fact.bx g18 28 #[.slice A7 r1.length c7, .slice A8 r2.length c8], rowsFact2 w.heap.size n20 n21 (Kd.int .i64) 2 (.slice A7 r1.length c7) r1 (Kd.int .i64) 2 (.slice A8 r2.length c8) r2, Fact.bx g14 28 #[.slice A5 l.length c5, .slice A6 m.length c6], rowsFact2 w.heap.size n12 n13 (Kd.int .i64) 2 (.slice A5 l.length c5) l (Kd.int .i64) 2 (.slice A6 m.length c6) m, Fact.bx g6 28 #[.slice A3 r1.length c3, .slice A4 r2.length c4], rowsFact2 w.heap.size n8 n9 (Kd.int .i64) 2 (.slice A3 r1.length c3) r1 (Kd.int .i64) 2 (.slice A4 r2.length c4) r2, Fact.bx (w.heap.size + 1) 26 #[.int .i64 a, .int .i64 b, .int .i64 c, .int .i64 d], Fact.bx w.heap.size 24 #[.slice A0x l.length c0x, .slice A1x m.length c1x]] wx)
      case first =>
        have hS1 : w15.cell? ⟨g14, 0, none⟩ = some (.slice A5 l.length c5) ∧ w15.cell? ⟨g14, 1, none⟩ = some (.slice A6 m.length c6) ∧ w15.cell? ⟨(w.heap.size + 1), 0, none⟩ = some (.int .i64 a) ∧ w15.cell? ⟨(w.heap.size + 1), 1, none⟩ = some (.int .i64 b) ∧ w15.cell? ⟨(w.heap.size + 1), 2, none⟩ = some (.int .i64 c) ∧ w15.cell? ⟨(w.heap.size + 1), 3, none⟩ = some (.int .i64 d) := ⟨box_cell (HS.get 0 rfl) 0, box_cell (HS.get 0 rfl) 1, box_cell (HS.get 4 rfl) 0, box_cell (HS.get 4 rfl) 1, box_cell (HS.get 4 rfl) 2, box_cell (HS.get 4 rfl) 3⟩
        have keepS : ∀ {W1 W2 : World}, Below W1.heap.size W1 W2 → (W1.cell? ⟨g14, 0, none⟩ = some (.slice A5 l.length c5) ∧ W1.cell? ⟨g14, 1, none⟩ = some (.slice A6 m.length c6) ∧ W1.cell? ⟨(w.heap.size + 1), 0, none⟩ = some (.int .i64 a) ∧ W1.cell? ⟨(w.heap.size + 1), 1, none⟩ = some (.int .i64 b) ∧ W1.cell? ⟨(w.heap.size + 1), 2, none⟩ = some (.int .i64 c) ∧ W1.cell? ⟨(w.heap.size + 1), 3, none⟩ = some (.int .i64 d)) → (W2.cell? ⟨g14, 0, none⟩ = some (.slice A5 l.length c5) ∧ W2.cell? ⟨g14, 1, none⟩ = some (.slice A6 m.length c6) ∧ W2.cell? ⟨(w.heap.size + 1), 0, none⟩ = some (.int .i64 a) ∧ W2.cell? ⟨(w.heap.size + 1), 1, none⟩ = some (.int .i64 b) ∧ W2.cell? ⟨(w.heap.size + 1), 2, none⟩ = some (.int .i64 c) ∧ W2.cell? ⟨(w.heap.size + 1), 3, none⟩ = some (.int .i64 d)) := fun hb ⟨h0, h1, h2, h3, h4, h5⟩ => ⟨pw_cell_below hb h0, pw_cell_below hb h1, pw_cell_below hb h2, pw_cell_below hb h3, pw_cell_below hb h4, pw_cell_below hb h5⟩
        go_region_held3 (fun w' => w'.cell? ⟨g14, 0, none⟩ = some (.slice A5 l.length c5) ∧ w'.cell? ⟨g14, 1, none⟩ = some (.slice A6 m.length c6) ∧ w'.cell? ⟨(w.heap.size + 1), 0, none⟩ = some (.int .i64 a) ∧ w'.cell? ⟨(w.heap.size + 1), 1, none⟩ = some (.int .i64 b) ∧ w'.cell? ⟨(w.heap.size + 1), 2, none⟩ = some (.int .i64 c) ∧ w'.cell? ⟨(w.heap.size + 1), 3, none⟩ = some (.int .i64 d))
          (first | exact hS1 | (refine keepS ?_ hS1; (repeat (first | exact Below.refl _ _ | refine bthen ?_ Bv17 | refine bthen ?_ Bv16 | refine below_alloc ?_ _ | refine bdrew ?_ | refine bset ?_ ?_ _)); (all_goals (first | omega | exact Nat.le_refl _ | (dsimp only; omega)))))
          ((first
              | (go_at_call 9; refine (laws_toMove.calls (a) (b) (c) (d) (a) (b) (c) (d) _ rfl).mono ?_; rintro e v16 ⟨rfl, hbv16⟩; have Bv16 : Below w15.heap.size w15 v16 := (by first | exact bthen (bdrew (Below.refl _ _)) hbv16 | exact bthen (below_alloc (bdrew (Below.refl _ _)) _) hbv16); obtain ⟨hxv16, hyv16⟩ := bcell hbv16; have hzv16 := Bv16.size; have hqv16 := hbv16.size; (try simp at hqv16); (try have hpw15_v16 : w15.heap.size < v16.heap.size := (by omega)); clear hqv16)
              | (go_at_call 10; refine (impl_Moved.calls ki _ _ (l) _ _ (m) (a) (b) (c) (d) (r1) (r2) (r3) _ (Kd.R_reads' (Kd.R_below (rows2 (HS.get 1 rfl)).1 ?s1)).2.2 (Kd.R_reads' (rows2 (HS.get 1 rfl)).1).2.1 (Kd.R_reads' (Kd.R_below (rows2 (HS.get 1 rfl)).2.1 ?s2)).2.2 (Kd.R_reads' (rows2 (HS.get 1 rfl)).2.1).2.1 KI.out).mono ?_; (case s1 => (repeat (first | exact Below.refl _ _ | refine bthen ?_ Bv16 | refine below_alloc ?_ _ | refine bdrew ?_ | refine bset ?_ ?_ _)); (all_goals (first | omega | exact Nat.le_refl _ | (dsimp only; omega)))); (case s2 => (repeat (first | exact Below.refl _ _ | refine bthen ?_ Bv16 | refine below_alloc ?_ _ | refine bdrew ?_ | refine bset ?_ ?_ _)); (all_goals (first | omega | exact Nat.le_refl _ | (dsimp only; omega)))); rintro e v17 ⟨u7, u8, rfl, ho7, ho8, hbv17⟩; obtain ⟨A7, c7, rfl, hc7⟩ := R_mk ho7; obtain ⟨A8, c8, rfl, hc8⟩ := R_mk ho8; have Bv17 : Below v16.heap.size v16 v17 := (by first | exact hbv17 | exact bthen (below_alloc (Below.refl _ _) _) hbv17); obtain ⟨hxv17, hyv17⟩ := bcell hbv17; have hzv17 := Bv17.size; have hqv17 := hbv17.size; (try simp at hqv17); (try have hpw15_v17 : w15.heap.size < v17.heap.size := (by omega)); (try have hpv16_v17 : v16.heap.size < v17.heap.size := (by omega)); clear hqv17)))
        all_goals (go_wp2_with fail)
        all_goals go_meet
        · have hw := HB.out.size
          refine ⟨v17.heap.size, v16.heap.size, v17.heap.size, A7, c7, A8, c8, rfl, rfl, ⟨bthen HB.out (below_alloc (bthen (Bv16) Bv17) _)⟩, ⟨?_⟩, ?_⟩
          · rw [alloc_size]; omega
          · exact HS.late (bthen (Bv16) Bv17) (show (rowsFact2 w.heap.size v16.heap.size v17.heap.size (Kd.int .i64) 2 (.slice A7 r1.length c7) r1 (Kd.int .i64) 2 (.slice A8 r2.length c8) r2).P v17 from ⟨R_later rfl ho7 (by first | omega | (rw [alloc_size]; omega)) (fun _ _ _ => rfl) (fun k h1 h2 => ⟨by first | omega | (rw [alloc_size] at h1; omega), h2⟩), R_later rfl ho8 (by first | omega | (rw [alloc_size]; omega)) (fun _ _ _ => rfl) (fun k h1 h2 => ⟨by first | omega | (rw [alloc_size] at h1; omega), h2⟩), (ap_ne ho7.1)⟩) _ _
        · have hw := HB.out.size
          refine ⟨v16.heap.size, (v16.heap.size + 1), v17.heap.size, A7, c7, A8, c8, rfl, rfl, ⟨bthen HB.out (bset (bset (bthen (Bv16) Bv17) (a := ⟨v16.heap.size, 0, none⟩) (by dsimp only; first | omega | exact Nat.le_refl _) _) (a := ⟨v16.heap.size, 1, none⟩) (by dsimp only; first | omega | exact Nat.le_refl _) _)⟩, ⟨?_⟩, ?_⟩
          · rw [set_size]; rw [set_size]; omega
          · exact HS.early (bset (bset (bthen (Bv16) Bv17) (a := ⟨v16.heap.size, 0, none⟩) (by dsimp only; first | omega | exact Nat.le_refl _) _) (a := ⟨v16.heap.size, 1, none⟩) (by dsimp only; first | omega | exact Nat.le_refl _) _) (show (rowsFact2 w.heap.size (v16.heap.size + 1) v17.heap.size (Kd.int .i64) 2 (.slice A7 r1.length c7) r1 (Kd.int .i64) 2 (.slice A8 r2.length c8) r2).P v17 from ⟨R_later rfl ho7 (by first | omega | (rw [alloc_size]; omega)) (fun _ _ _ => rfl) (fun k h1 h2 => ⟨by first | omega | (rw [alloc_size] at h1; omega), h2⟩), R_later rfl ho8 (by first | omega | (rw [alloc_size]; omega)) (fun _ _ _ => rfl) (fun k h1 h2 => ⟨by first | omega | (rw [alloc_size] at h1; omega), h2⟩), (ap_ne ho7.1)⟩) (fun k hk => ((set_other _ _ _ _ k hk).trans (set_other _ _ _ _ k hk))) (fun k hk => Nat.lt_of_lt_of_le (by first | omega | exact Nat.lt_succ_self _) hk.1) (box_set (box_set (blk_below (heap_alloc_new v16 _) hbv17) 0 _) 1 _)
        · have hw := HB.out.size
          refine ⟨w15.heap.size, v16.heap.size, v17.heap.size, A7, c7, A8, c8, rfl, rfl, ⟨bthen HB.out (bset (bset (bthen (Bv16) Bv17) (a := ⟨w15.heap.size, 0, none⟩) (by dsimp only; first | omega | exact Nat.le_refl _) _) (a := ⟨w15.heap.size, 1, none⟩) (by dsimp only; first | omega | exact Nat.le_refl _) _)⟩, ⟨?_⟩, ?_⟩
          · rw [set_size]; rw [set_size]; omega
          · exact HS.early (bset (bset (bthen (Bv16) Bv17) (a := ⟨w15.heap.size, 0, none⟩) (by dsimp only; first | omega | exact Nat.le_refl _) _) (a := ⟨w15.heap.size, 1, none⟩) (by dsimp only; first | omega | exact Nat.le_refl _) _) (show (rowsFact2 w.heap.size v16.heap.size v17.heap.size (Kd.int .i64) 2 (.slice A7 r1.length c7) r1 (Kd.int .i64) 2 (.slice A8 r2.length c8) r2).P v17 from ⟨R_later rfl ho7 (by first | omega | (rw [alloc_size]; omega)) (fun _ _ _ => rfl) (fun k h1 h2 => ⟨by first | omega | (rw [alloc_size] at h1; omega), h2⟩), R_later rfl ho8 (by first | omega | (rw [alloc_size]; omega)) (fun _ _ _ => rfl) (fun k h1 h2 => ⟨by first | omega | (rw [alloc_size] at h1; omega), h2⟩), (ap_ne ho7.1)⟩) (fun k hk => ((set_other _ _ _ _ k hk).trans (set_other _ _ _ _ k hk))) (fun k hk => Nat.lt_of_lt_of_le (by first | omega | exact Nat.lt_succ_self _) hk.1) (box_set (box_set (blk_below (blk_below (heap_alloc_new w15.drew _) hbv16) hbv17) 0 _) 1 _)
      case rest =>
        obtain ⟨g18, n20, n21, A7, c7, A8, c8, rfl, rfl, HB, HZ', HS⟩ := hcut
        obtain ⟨hz1_g18, hz2_g18, hz3_g18, hz4_g18, hz5_g18, hz6_g18⟩ := HZ'.out
        clear HZ'
        obtain ⟨n22, hz7_g18, hz8_g18, HZ⟩ : ∃ n, n21 ≤ n ∧ g18 + 1 ≤ n ∧ n ≤ wc.heap.size := ⟨_, hz3_g18, hz5_g18, Nat.le_refl _⟩
        clear hz3_g18 hz5_g18
        obtain ⟨w19, rfl⟩ : ∃ x : World, x = wc := ⟨_, rfl⟩
        have hl5_0 := box_cell (HS.get 0 rfl) 0
        have hl5_1 := box_cell (HS.get 0 rfl) 1
        have hl3_0 := box_cell (HS.get 4 rfl) 0
        have hl3_1 := box_cell (HS.get 4 rfl) 1
        go_upto_region 10 with (first | (go_at_call 11; refine (laws_eqBank.calls kr _ _ (r1) _ _ (r2) _ _ (r1) _ _ (r2) (true) _ (Kd.R_reads' (rows2 (HS.get 1 rfl)).1).2.2 (Kd.R_reads' (rows2 (HS.get 1 rfl)).1).2.1 (Kd.R_reads' (rows2 (HS.get 1 rfl)).2.1).2.2 (Kd.R_reads' (rows2 (HS.get 1 rfl)).2.1).2.1 (Kd.R_reads' (rows2 (HS.get 5 rfl)).1).2.2 (Kd.R_reads' (rows2 (HS.get 5 rfl)).1).2.1 (Kd.R_reads' (rows2 (HS.get 5 rfl)).2.1).2.2 (Kd.R_reads' (rows2 (HS.get 5 rfl)).2.1).2.1 KR.out).mono ?_; rintro e v23 ⟨rfl, hbv23⟩; have HZ := Nat.le_trans HZ hbv23.size; have HS := HS.below hbv23; have HB := Aside0.mk (bthen HB.out hbv23); clear hbv23))
        clear hl5_0 hl5_1 hl3_0 hl3_1
        have hS1 : v23.cell? ⟨g14, 0, none⟩ = some (.slice A5 l.length c5) ∧ v23.cell? ⟨g14, 1, none⟩ = some (.slice A6 m.length c6) ∧ v23.cell? ⟨w.heap.size, 0, none⟩ = some (.slice A0x l.length c0x) ∧ v23.cell? ⟨w.heap.size, 1, none⟩ = some (.slice A1x m.length c1x) := ⟨box_cell (HS.get 2 rfl) 0, box_cell (HS.get 2 rfl) 1, box_cell (HS.get 7 rfl) 0, box_cell (HS.get 7 rfl) 1⟩
        have keepS : ∀ {W1 W2 : World}, Below W1.heap.size W1 W2 → (W1.cell? ⟨g14, 0, none⟩ = some (.slice A5 l.length c5) ∧ W1.cell? ⟨g14, 1, none⟩ = some (.slice A6 m.length c6) ∧ W1.cell? ⟨w.heap.size, 0, none⟩ = some (.slice A0x l.length c0x) ∧ W1.cell? ⟨w.heap.size, 1, none⟩ = some (.slice A1x m.length c1x)) → (W2.cell? ⟨g14, 0, none⟩ = some (.slice A5 l.length c5) ∧ W2.cell? ⟨g14, 1, none⟩ = some (.slice A6 m.length c6) ∧ W2.cell? ⟨w.heap.size, 0, none⟩ = some (.slice A0x l.length c0x) ∧ W2.cell? ⟨w.heap.size, 1, none⟩ = some (.slice A1x m.length c1x)) := fun hb ⟨h0, h1, h2, h3⟩ => ⟨pw_cell_below hb h0, pw_cell_below hb h1, pw_cell_below hb h2, pw_cell_below hb h3⟩
        go_region_held3 (fun w' => w'.cell? ⟨g14, 0, none⟩ = some (.slice A5 l.length c5) ∧ w'.cell? ⟨g14, 1, none⟩ = some (.slice A6 m.length c6) ∧ w'.cell? ⟨w.heap.size, 0, none⟩ = some (.slice A0x l.length c0x) ∧ w'.cell? ⟨w.heap.size, 1, none⟩ = some (.slice A1x m.length c1x))
          (first | exact hS1 | (refine keepS ?_ hS1; (repeat (first | exact Below.refl _ _ | refine bthen ?_ Bv25 | refine bthen ?_ Bv24 | refine below_alloc ?_ _ | refine bdrew ?_ | refine bset ?_ ?_ _)); (all_goals (first | omega | exact Nat.le_refl _ | (dsimp only; omega)))))
          ((first
              | (go_at_call 8; refine (laws_toBank.calls kb _ _ (l) _ _ (m) (l) (m) _ (Kd.C_below HR0.out (bthen HB.out ?s1)) HC0.out (Kd.C_below HR1.out (bthen HB.out ?s2)) HC1.out KB.out).mono ?_; (case s1 => (repeat (first | exact Below.refl _ _ | refine below_alloc ?_ _ | refine bdrew ?_ | refine bset ?_ ?_ _)); (all_goals (first | omega | exact Nat.le_refl _ | (dsimp only; omega)))); (case s2 => (repeat (first | exact Below.refl _ _ | refine below_alloc ?_ _ | refine bdrew ?_ | refine bset ?_ ?_ _)); (all_goals (first | omega | exact Nat.le_refl _ | (dsimp only; omega)))); rintro e v24 ⟨u9, u10, rfl, ho9, ho10, hbv24⟩; obtain ⟨A9, c9, rfl, hc9⟩ := R_mk ho9; obtain ⟨A10, c10, rfl, hc10⟩ := R_mk ho10; have Bv24 : Below v23.heap.size v23 v24 := (by first | exact bthen (bdrew (Below.refl _ _)) hbv24 | exact bthen (below_alloc (bdrew (Below.refl _ _)) _) hbv24); obtain ⟨hxv24, hyv24⟩ := bcell hbv24; have hzv24 := Bv24.size; have hqv24 := hbv24.size; (try simp at hqv24); (try have hpv23_v24 : v23.heap.size < v24.heap.size := (by omega)); clear hqv24)
              | (go_at_call 11; refine (laws_eqBank.calls ke _ _ (l) _ _ (m) _ _ (l) _ _ (m) (true) _ (Kd.R_reads' (Kd.R_below (rows2 (HS.get 3 rfl)).1 ?s1)).2.2 (Kd.R_reads' (rows2 (HS.get 3 rfl)).1).2.1 (Kd.R_reads' (Kd.R_below (rows2 (HS.get 3 rfl)).2.1 ?s2)).2.2 (Kd.R_reads' (rows2 (HS.get 3 rfl)).2.1).2.1 (Kd.R_reads' (Kd.R_below ho9 ?s3)).2.2 (Kd.R_reads' ho9).2.1 (Kd.R_reads' (Kd.R_below ho10 ?s4)).2.2 (Kd.R_reads' ho10).2.1 KE.out).mono ?_; (case s1 => (repeat (first | exact Below.refl _ _ | refine bthen ?_ Bv24 | refine below_alloc ?_ _ | refine bdrew ?_ | refine bset ?_ ?_ _)); (all_goals (first | omega | exact Nat.le_refl _ | (dsimp only; omega)))); (case s2 => (repeat (first | exact Below.refl _ _ | refine bthen ?_ Bv24 | refine below_alloc ?_ _ | refine bdrew ?_ | refine bset ?_ ?_ _)); (all_goals (first | omega | exact Nat.le_refl _ | (dsimp only; omega)))); (case s3 => (repeat (first | exact Below.refl _ _ | refine bthen ?_ Bv24 | refine below_alloc ?_ _ | refine bdrew ?_ | refine bset ?_ ?_ _)); (all_goals (first | omega | exact Nat.le_refl _ | (dsimp only; omega)))); (case s4 => (repeat (first | exact Below.refl _ _ | refine bthen ?_ Bv24 | refine below_alloc ?_ _ | refine bdrew ?_ | refine bset ?_ ?_ _)); (all_goals (first | omega | exact Nat.le_refl _ | (dsimp only; omega)))); rintro e v25 ⟨rfl, hbv25⟩; have Bv25 : Below v24.heap.size v24 v25 := (by first | exact hbv25 | exact bthen (below_alloc (Below.refl _ _) _) hbv25); obtain ⟨hxv25, hyv25⟩ := bcell hbv25; have hzv25 := Bv25.size; have hqv25 := hbv25.size; (try simp at hqv25); (try have hpv23_v25 : v23.heap.size < v25.heap.size := (by omega)); (try have hpv24_v25 : v24.heap.size < v25.heap.size := (by omega)); clear hqv25)))
        have HS := HS.below (bthen (Bv24) Bv25)
        have HB := Aside0.mk (bthen HB.out (bthen (Bv24) Bv25))
        have HZ : n22 ≤ v25.heap.size := Nat.le_trans HZ ((bthen (Bv24) Bv25)).size
        clear hS1 keepS
        go_upto_region 12 with (fail)
        go_upto_region 13 with (fail)
        have hl4_0 := box_cell (HS.get 2 rfl) 0
        have hl4_1 := box_cell (HS.get 2 rfl) 1
        go_upto_region 14 with (first | (go_at_call 12; refine (laws_markBank.calls kx (fun k => (.slice A5 l.length c5 : Value).ownBlock = some k) _ (l) (fun k => (.slice A6 m.length c6 : Value).ownBlock = some k) _ (m) (1) (px) (mx1) (mx2) w _ HB.out (R_tight rfl (rows2 (HS.get 3 rfl)).1 (fun _ hk _ _ => hk)) (rows2 (HS.get 3 rfl)).2.2 (R_tight rfl (rows2 (HS.get 3 rfl)).2.1 (fun _ hk _ _ => hk)) (rows2 (HS.get 3 rfl)).2.2.symm KX.out).mono ?_; rintro e v26 ⟨rfl, hw0, hw1, hbv26, hkv26⟩; have HS' := HS.mark2 3 rfl rfl rfl rfl hw0 hw1 hkv26 ?sd; (case sd => intro f hf k h1 h2; simp only [List.eraseIdx, List.mem_cons, List.not_mem_nil, or_false] at hf; rcases hf with rfl | rfl | rfl | rfl | rfl | rfl | rfl <;> (dsimp only [Fact.bx, rowsFact1, rowsFact2] at h1; omega)); have HZ := Nat.le_trans HZ hkv26.1; clear HS; have HS := HS'; clear HS'; have HB := Aside0.mk hbv26; clear hbv26 hkv26 hw0 hw1))
        clear hl4_0 hl4_1
        have hl5_0 := box_cell (HS.get 1 rfl) 0
        have hl5_1 := box_cell (HS.get 1 rfl) 1
        have hl3_0 := box_cell (HS.get 4 rfl) 0
        have hl3_1 := box_cell (HS.get 4 rfl) 1
        go_upto_region 16 with (first | (go_at_call 11; refine (laws_eqBank.calls kr _ _ (r1) _ _ (r2) _ _ (r1) _ _ (r2) (true) _ (Kd.R_reads' (rows2 (HS.get 2 rfl)).1).2.2 (Kd.R_reads' (rows2 (HS.get 2 rfl)).1).2.1 (Kd.R_reads' (rows2 (HS.get 2 rfl)).2.1).2.2 (Kd.R_reads' (rows2 (HS.get 2 rfl)).2.1).2.1 (Kd.R_reads' (rows2 (HS.get 5 rfl)).1).2.2 (Kd.R_reads' (rows2 (HS.get 5 rfl)).1).2.1 (Kd.R_reads' (rows2 (HS.get 5 rfl)).2.1).2.2 (Kd.R_reads' (rows2 (HS.get 5 rfl)).2.1).2.1 KR.out).mono ?_; rintro e v27 ⟨rfl, hbv27⟩; have HZ := Nat.le_trans HZ hbv27.size; have HS := HS.below hbv27; have HB := Aside0.mk (bthen HB.out hbv27); clear hbv27))
        clear hl5_0 hl5_1 hl3_0 hl3_1
        go_upto_region 17 with (fail)
        have hl5_0 := box_cell (HS.get 1 rfl) 0
        have hl5_1 := box_cell (HS.get 1 rfl) 1
        go_upto_region 18 with (first | (go_at_call 12; refine (laws_markBank.calls kg (fun k => (.slice A7 r1.length c7 : Value).ownBlock = some k) _ (r1) (fun k => (.slice A8 r2.length c8 : Value).ownBlock = some k) _ (r2) (1) (pg) (mg1) (mg2) w _ HB.out (R_tight rfl (rows2 (HS.get 2 rfl)).1 (fun _ hk _ _ => hk)) (rows2 (HS.get 2 rfl)).2.2 (R_tight rfl (rows2 (HS.get 2 rfl)).2.1 (fun _ hk _ _ => hk)) (rows2 (HS.get 2 rfl)).2.2.symm KG.out).mono ?_; rintro e v28 ⟨rfl, hw0, hw1, hbv28, hkv28⟩; have HS' := HS.mark2 2 rfl rfl rfl rfl hw0 hw1 hkv28 ?sd; (case sd => intro f hf k h1 h2; simp only [List.eraseIdx, List.mem_cons, List.not_mem_nil, or_false] at hf; rcases hf with rfl | rfl | rfl | rfl | rfl | rfl | rfl <;> (dsimp only [Fact.bx, rowsFact1, rowsFact2] at h1; omega)); have HZ := Nat.le_trans HZ hkv28.1; clear HS; have HS := HS'; clear HS'; have HB := Aside0.mk hbv28; clear hbv28 hkv28 hw0 hw1))
        clear hl5_0 hl5_1
        go_upto_region 19 with (fail)
        have hl5_0 := box_cell (HS.get 2 rfl) 0
        have hl5_1 := box_cell (HS.get 2 rfl) 1
        go_upto_region 20 with (first | (go_at_call 13; have hcon := (laws_heldBank.calls kh _ _ (mg1) _ _ (mg2) (1) (pg) _ (Kd.R_reads' (rows2 (HS.get 0 rfl)).1).2.2 (Nat.le_trans (Nat.le_of_eq (Kd.R_reads' (rows2 (HS.get 0 rfl)).1).1.symm) (Kd.R_reads' (rows2 (HS.get 0 rfl)).1).2.1) (Kd.R_reads' (rows2 (HS.get 0 rfl)).2.1).2.2 (Nat.le_trans (Nat.le_of_eq (Kd.R_reads' (rows2 (HS.get 0 rfl)).2.1).1.symm) (Kd.R_reads' (rows2 (HS.get 0 rfl)).2.1).2.1) KH.out); rw [EG1.out, EG2.out] at hcon; refine hcon.mono ?_; clear hcon; rintro e v29 ⟨rfl, hbv29⟩; have HZ := Nat.le_trans HZ hbv29.size; have HS := HS.below hbv29; have HB := Aside0.mk (bthen HB.out hbv29); clear hbv29))
        clear hl5_0 hl5_1
        go_upto_region 22 with (fail)
        go_upto_region 24 with (fail)
        go_upto_region 24 with (fail)
        go_cut [14, 15] (fun s14 s15 wx => ∃ (g33 n35 n36 : Nat) (A13 : Option Addr) (c13 : Nat) (A14 : Option Addr) (c14 : Nat), s14 = .pointer (some ⟨g33, 0, none⟩) ∧ s15 = .int .i64 r3 ∧ Aside0 (Below w.heap.size w wx) ∧ Aside0 (n22 ≤ n35 ∧ n35 ≤ n36 ∧ n36 ≤ wx.heap.size ∧ n22 ≤ g33 ∧ g33 + 1 ≤ wx.heap.size ∧ (g33 + 1 ≤ n35 ∨ n36 ≤ g33)) ∧ All [Fact.bx g33 28 #[.slice A13 r1.length c13, .slice A14 r2.length c14], rowsFact2 w.heap.size n35 n36 (Kd.int .i64) 2 (.slice A13 r1.length c13) r1 (Kd.int .i64) 2 (.slice A14 r2.length c14) r2, rowsFact2 w.heap.size n20 n21 (Kd.int .i64) 2 (.slice A7 r1.length c7) mg1 (Kd.int .i64) 2 (.slice A8 r2.length c8) mg2, rowsFact2 w.heap.size n12 n13 (Kd.int .i64) 2 (.slice A5 l.length c5) mx1 (Kd.int .i64) 2 (.slice A6 m.length c6) mx2, Fact.bx g18 28 #[.slice A7 r1.length c7, .slice A8 r2.length c8], Fact.bx g14 28 #[.slice A5 l.length c5, .slice A6 m.length c6], Fact.bx g6 28 #[.slice A3 r1.length c3, .slice A4 r2.length c4], rowsFact2 w.heap.size n8 n9 (Kd.int .i64) 2 (.slice A3 r1.length c3) r1 (Kd.int .i64) 2 (.slice A4 r2.length c4) r2, Fact.bx (w.heap.size + 1) 26 #[.int .i64 a, .int .i64 b, .int .i64 c, .int .i64 d], Fact.bx w.heap.size 24 #[.slice A0x l.length c0x, .slice A1x m.length c1x]] wx)
        case first =>
          have hS1 : v29.cell? ⟨w.heap.size, 0, none⟩ = some (.slice A0x l.length c0x) ∧ v29.cell? ⟨w.heap.size, 1, none⟩ = some (.slice A1x m.length c1x) ∧ v29.cell? ⟨(w.heap.size + 1), 0, none⟩ = some (.int .i64 a) ∧ v29.cell? ⟨(w.heap.size + 1), 1, none⟩ = some (.int .i64 b) ∧ v29.cell? ⟨(w.heap.size + 1), 2, none⟩ = some (.int .i64 c) ∧ v29.cell? ⟨(w.heap.size + 1), 3, none⟩ = some (.int .i64 d) := ⟨box_cell (HS.get 7 rfl) 0, box_cell (HS.get 7 rfl) 1, box_cell (HS.get 6 rfl) 0, box_cell (HS.get 6 rfl) 1, box_cell (HS.get 6 rfl) 2, box_cell (HS.get 6 rfl) 3⟩
          have keepS : ∀ {W1 W2 : World}, Below W1.heap.size W1 W2 → (W1.cell? ⟨w.heap.size, 0, none⟩ = some (.slice A0x l.length c0x) ∧ W1.cell? ⟨w.heap.size, 1, none⟩ = some (.slice A1x m.length c1x) ∧ W1.cell? ⟨(w.heap.size + 1), 0, none⟩ = some (.int .i64 a) ∧ W1.cell? ⟨(w.heap.size + 1), 1, none⟩ = some (.int .i64 b) ∧ W1.cell? ⟨(w.heap.size + 1), 2, none⟩ = some (.int .i64 c) ∧ W1.cell? ⟨(w.heap.size + 1), 3, none⟩ = some (.int .i64 d)) → (W2.cell? ⟨w.heap.size, 0, none⟩ = some (.slice A0x l.length c0x) ∧ W2.cell? ⟨w.heap.size, 1, none⟩ = some (.slice A1x m.length c1x) ∧ W2.cell? ⟨(w.heap.size + 1), 0, none⟩ = some (.int .i64 a) ∧ W2.cell? ⟨(w.heap.size + 1), 1, none⟩ = some (.int .i64 b) ∧ W2.cell? ⟨(w.heap.size + 1), 2, none⟩ = some (.int .i64 c) ∧ W2.cell? ⟨(w.heap.size + 1), 3, none⟩ = some (.int .i64 d)) := fun hb ⟨h0, h1, h2, h3, h4, h5⟩ => ⟨pw_cell_below hb h0, pw_cell_below hb h1, pw_cell_below hb h2, pw_cell_below hb h3, pw_cell_below hb h4, pw_cell_below hb h5⟩
          go_region_held3 (fun w' => w'.cell? ⟨w.heap.size, 0, none⟩ = some (.slice A0x l.length c0x) ∧ w'.cell? ⟨w.heap.size, 1, none⟩ = some (.slice A1x m.length c1x) ∧ w'.cell? ⟨(w.heap.size + 1), 0, none⟩ = some (.int .i64 a) ∧ w'.cell? ⟨(w.heap.size + 1), 1, none⟩ = some (.int .i64 b) ∧ w'.cell? ⟨(w.heap.size + 1), 2, none⟩ = some (.int .i64 c) ∧ w'.cell? ⟨(w.heap.size + 1), 3, none⟩ = some (.int .i64 d))
            (first | exact hS1 | (refine keepS ?_ hS1; (repeat (first | exact Below.refl _ _ | refine bthen ?_ Bv32 | refine bthen ?_ Bv31 | refine bthen ?_ Bv30 | refine below_alloc ?_ _ | refine bdrew ?_ | refine bset ?_ ?_ _)); (all_goals (first | omega | exact Nat.le_refl _ | (dsimp only; omega)))))
            ((first
                | (go_at_call 8; refine (laws_toBank.calls kb _ _ (l) _ _ (m) (l) (m) _ (Kd.C_below HR0.out (bthen HB.out ?s1)) HC0.out (Kd.C_below HR1.out (bthen HB.out ?s2)) HC1.out KB.out).mono ?_; (case s1 => (repeat (first | exact Below.refl _ _ | refine below_alloc ?_ _ | refine bdrew ?_ | refine bset ?_ ?_ _)); (all_goals (first | omega | exact Nat.le_refl _ | (dsimp only; omega)))); (case s2 => (repeat (first | exact Below.refl _ _ | refine below_alloc ?_ _ | refine bdrew ?_ | refine bset ?_ ?_ _)); (all_goals (first | omega | exact Nat.le_refl _ | (dsimp only; omega)))); rintro e v30 ⟨u11, u12, rfl, ho11, ho12, hbv30⟩; obtain ⟨A11, c11, rfl, hc11⟩ := R_mk ho11; obtain ⟨A12, c12, rfl, hc12⟩ := R_mk ho12; have Bv30 : Below v29.heap.size v29 v30 := (by first | exact bthen (bdrew (Below.refl _ _)) hbv30 | exact bthen (below_alloc (bdrew (Below.refl _ _)) _) hbv30); obtain ⟨hxv30, hyv30⟩ := bcell hbv30; have hzv30 := Bv30.size; have hqv30 := hbv30.size; (try simp at hqv30); (try have hpv29_v30 : v29.heap.size < v30.heap.size := (by omega)); clear hqv30)
                | (go_at_call 9; refine (laws_toMove.calls (a) (b) (c) (d) (a) (b) (c) (d) _ rfl).mono ?_; rintro e v31 ⟨rfl, hbv31⟩; have Bv31 : Below v30.heap.size v30 v31 := (by first | exact hbv31 | exact bthen (below_alloc (Below.refl _ _) _) hbv31); obtain ⟨hxv31, hyv31⟩ := bcell hbv31; have hzv31 := Bv31.size; have hqv31 := hbv31.size; (try simp at hqv31); (try have hpv29_v31 : v29.heap.size < v31.heap.size := (by omega)); (try have hpv30_v31 : v30.heap.size < v31.heap.size := (by omega)); clear hqv31)
                | (go_at_call 10; refine (impl_Moved.calls ki _ _ (l) _ _ (m) (a) (b) (c) (d) (r1) (r2) (r3) _ (Kd.R_reads' (Kd.R_below ho11 ?s1)).2.2 (Kd.R_reads' ho11).2.1 (Kd.R_reads' (Kd.R_below ho12 ?s2)).2.2 (Kd.R_reads' ho12).2.1 KI.out).mono ?_; (case s1 => (repeat (first | exact Below.refl _ _ | refine bthen ?_ Bv31 | refine bthen ?_ Bv30 | refine below_alloc ?_ _ | refine bdrew ?_ | refine bset ?_ ?_ _)); (all_goals (first | omega | exact Nat.le_refl _ | (dsimp only; omega)))); (case s2 => (repeat (first | exact Below.refl _ _ | refine bthen ?_ Bv31 | refine bthen ?_ Bv30 | refine below_alloc ?_ _ | refine bdrew ?_ | refine bset ?_ ?_ _)); (all_goals (first | omega | exact Nat.le_refl _ | (dsimp only; omega)))); rintro e v32 ⟨u13, u14, rfl, ho13, ho14, hbv32⟩; obtain ⟨A13, c13, rfl, hc13⟩ := R_mk ho13; obtain ⟨A14, c14, rfl, hc14⟩ := R_mk ho14; have Bv32 : Below v31.heap.size v31 v32 := (by first | exact hbv32 | exact bthen (below_alloc (Below.refl _ _) _) hbv32); obtain ⟨hxv32, hyv32⟩ := bcell hbv32; have hzv32 := Bv32.size; have hqv32 := hbv32.size; (try simp at hqv32); (try have hpv29_v32 : v29.heap.size < v32.heap.size := (by omega)); (try have hpv30_v32 : v30.heap.size < v32.heap.size := (by omega)); (try have hpv31_v32 : v31.heap.size < v32.heap.size := (by omega)); clear hqv32)))
          all_goals (go_wp2_with fail)
          all_goals go_meet
          · have hw := HB.out.size
            refine ⟨v32.heap.size, v31.heap.size, v32.heap.size, A13, c13, A14, c14, rfl, rfl, ⟨bthen HB.out (below_alloc (bthen (bthen (Bv30) Bv31) Bv32) _)⟩, ⟨?_⟩, ?_⟩
            · rw [alloc_size]; omega
            · exact HS.late (bthen (bthen (Bv30) Bv31) Bv32) (show (rowsFact2 w.heap.size v31.heap.size v32.heap.size (Kd.int .i64) 2 (.slice A13 r1.length c13) r1 (Kd.int .i64) 2 (.slice A14 r2.length c14) r2).P v32 from ⟨R_later rfl ho13 (by first | omega | (rw [alloc_size]; omega)) (fun _ _ _ => rfl) (fun k h1 h2 => ⟨by first | omega | (rw [alloc_size] at h1; omega), h2⟩), R_later rfl ho14 (by first | omega | (rw [alloc_size]; omega)) (fun _ _ _ => rfl) (fun k h1 h2 => ⟨by first | omega | (rw [alloc_size] at h1; omega), h2⟩), (ap_ne ho13.1)⟩) _ _
          · have hw := HB.out.size
            refine ⟨v31.heap.size, (v31.heap.size + 1), v32.heap.size, A13, c13, A14, c14, rfl, rfl, ⟨bthen HB.out (bset (bset (bthen (bthen (Bv30) Bv31) Bv32) (a := ⟨v31.heap.size, 0, none⟩) (by dsimp only; first | omega | exact Nat.le_refl _) _) (a := ⟨v31.heap.size, 1, none⟩) (by dsimp only; first | omega | exact Nat.le_refl _) _)⟩, ⟨?_⟩, ?_⟩
            · rw [set_size]; rw [set_size]; omega
            · exact HS.early (bset (bset (bthen (bthen (Bv30) Bv31) Bv32) (a := ⟨v31.heap.size, 0, none⟩) (by dsimp only; first | omega | exact Nat.le_refl _) _) (a := ⟨v31.heap.size, 1, none⟩) (by dsimp only; first | omega | exact Nat.le_refl _) _) (show (rowsFact2 w.heap.size (v31.heap.size + 1) v32.heap.size (Kd.int .i64) 2 (.slice A13 r1.length c13) r1 (Kd.int .i64) 2 (.slice A14 r2.length c14) r2).P v32 from ⟨R_later rfl ho13 (by first | omega | (rw [alloc_size]; omega)) (fun _ _ _ => rfl) (fun k h1 h2 => ⟨by first | omega | (rw [alloc_size] at h1; omega), h2⟩), R_later rfl ho14 (by first | omega | (rw [alloc_size]; omega)) (fun _ _ _ => rfl) (fun k h1 h2 => ⟨by first | omega | (rw [alloc_size] at h1; omega), h2⟩), (ap_ne ho13.1)⟩) (fun k hk => ((set_other _ _ _ _ k hk).trans (set_other _ _ _ _ k hk))) (fun k hk => Nat.lt_of_lt_of_le (by first | omega | exact Nat.lt_succ_self _) hk.1) (box_set (box_set (blk_below (heap_alloc_new v31 _) hbv32) 0 _) 1 _)
          · have hw := HB.out.size
            refine ⟨v30.heap.size, v31.heap.size, v32.heap.size, A13, c13, A14, c14, rfl, rfl, ⟨bthen HB.out (bset (bset (bthen (bthen (Bv30) Bv31) Bv32) (a := ⟨v30.heap.size, 0, none⟩) (by dsimp only; first | omega | exact Nat.le_refl _) _) (a := ⟨v30.heap.size, 1, none⟩) (by dsimp only; first | omega | exact Nat.le_refl _) _)⟩, ⟨?_⟩, ?_⟩
            · rw [set_size]; rw [set_size]; omega
            · exact HS.early (bset (bset (bthen (bthen (Bv30) Bv31) Bv32) (a := ⟨v30.heap.size, 0, none⟩) (by dsimp only; first | omega | exact Nat.le_refl _) _) (a := ⟨v30.heap.size, 1, none⟩) (by dsimp only; first | omega | exact Nat.le_refl _) _) (show (rowsFact2 w.heap.size v31.heap.size v32.heap.size (Kd.int .i64) 2 (.slice A13 r1.length c13) r1 (Kd.int .i64) 2 (.slice A14 r2.length c14) r2).P v32 from ⟨R_later rfl ho13 (by first | omega | (rw [alloc_size]; omega)) (fun _ _ _ => rfl) (fun k h1 h2 => ⟨by first | omega | (rw [alloc_size] at h1; omega), h2⟩), R_later rfl ho14 (by first | omega | (rw [alloc_size]; omega)) (fun _ _ _ => rfl) (fun k h1 h2 => ⟨by first | omega | (rw [alloc_size] at h1; omega), h2⟩), (ap_ne ho13.1)⟩) (fun k hk => ((set_other _ _ _ _ k hk).trans (set_other _ _ _ _ k hk))) (fun k hk => Nat.lt_of_lt_of_le (by first | omega | exact Nat.lt_succ_self _) hk.1) (box_set (box_set (blk_below (blk_below (heap_alloc_new v30 _) hbv31) hbv32) 0 _) 1 _)
          · have hw := HB.out.size
            refine ⟨v29.heap.size, v31.heap.size, v32.heap.size, A13, c13, A14, c14, rfl, rfl, ⟨bthen HB.out (bset (bset (bthen (bthen (Bv30) Bv31) Bv32) (a := ⟨v29.heap.size, 0, none⟩) (by dsimp only; first | omega | exact Nat.le_refl _) _) (a := ⟨v29.heap.size, 1, none⟩) (by dsimp only; first | omega | exact Nat.le_refl _) _)⟩, ⟨?_⟩, ?_⟩
            · rw [set_size]; rw [set_size]; omega
            · exact HS.early (bset (bset (bthen (bthen (Bv30) Bv31) Bv32) (a := ⟨v29.heap.size, 0, none⟩) (by dsimp only; first | omega | exact Nat.le_refl _) _) (a := ⟨v29.heap.size, 1, none⟩) (by dsimp only; first | omega | exact Nat.le_refl _) _) (show (rowsFact2 w.heap.size v31.heap.size v32.heap.size (Kd.int .i64) 2 (.slice A13 r1.length c13) r1 (Kd.int .i64) 2 (.slice A14 r2.length c14) r2).P v32 from ⟨R_later rfl ho13 (by first | omega | (rw [alloc_size]; omega)) (fun _ _ _ => rfl) (fun k h1 h2 => ⟨by first | omega | (rw [alloc_size] at h1; omega), h2⟩), R_later rfl ho14 (by first | omega | (rw [alloc_size]; omega)) (fun _ _ _ => rfl) (fun k h1 h2 => ⟨by first | omega | (rw [alloc_size] at h1; omega), h2⟩), (ap_ne ho13.1)⟩) (fun k hk => ((set_other _ _ _ _ k hk).trans (set_other _ _ _ _ k hk))) (fun k hk => Nat.lt_of_lt_of_le (by first | omega | exact Nat.lt_succ_self _) hk.1) (box_set (box_set (blk_below (blk_below (blk_below (heap_alloc_new v29.drew _) hbv30) hbv31) hbv32) 0 _) 1 _)
        case rest =>
          obtain ⟨g33, n35, n36, A13, c13, A14, c14, rfl, rfl, HB, HZ', HS⟩ := hcut
          obtain ⟨hz1_g33, hz2_g33, hz3_g33, hz4_g33, hz5_g33, hz6_g33⟩ := HZ'.out
          clear HZ'
          obtain ⟨n37, hz7_g33, hz8_g33, HZ⟩ : ∃ n, n36 ≤ n ∧ g33 + 1 ≤ n ∧ n ≤ wc.heap.size := ⟨_, hz3_g33, hz5_g33, Nat.le_refl _⟩
          clear hz3_g33 hz5_g33
          obtain ⟨w34, rfl⟩ : ∃ x : World, x = wc := ⟨_, rfl⟩
          have hl6_0 := box_cell (HS.get 0 rfl) 0
          have hl6_1 := box_cell (HS.get 0 rfl) 1
          have hl3_0 := box_cell (HS.get 6 rfl) 0
          have hl3_1 := box_cell (HS.get 6 rfl) 1
          go_upto_region 27 with (first | (go_at_call 11; refine (laws_eqBank.calls kr _ _ (r1) _ _ (r2) _ _ (r1) _ _ (r2) (true) _ (Kd.R_reads' (rows2 (HS.get 1 rfl)).1).2.2 (Kd.R_reads' (rows2 (HS.get 1 rfl)).1).2.1 (Kd.R_reads' (rows2 (HS.get 1 rfl)).2.1).2.2 (Kd.R_reads' (rows2 (HS.get 1 rfl)).2.1).2.1 (Kd.R_reads' (rows2 (HS.get 7 rfl)).1).2.2 (Kd.R_reads' (rows2 (HS.get 7 rfl)).1).2.1 (Kd.R_reads' (rows2 (HS.get 7 rfl)).2.1).2.2 (Kd.R_reads' (rows2 (HS.get 7 rfl)).2.1).2.1 KR.out).mono ?_; rintro e v38 ⟨rfl, hbv38⟩; have HZ := Nat.le_trans HZ hbv38.size; have HS := HS.below hbv38; have HB := Aside0.mk (bthen HB.out hbv38); clear hbv38))
          clear hl6_0 hl6_1 hl3_0 hl3_1
          go_upto_region 28 with (fail)
          have hl5_0 := box_cell (HS.get 4 rfl) 0
          have hl5_1 := box_cell (HS.get 4 rfl) 1
          go_upto_region 29 with (first | (go_at_call 13; have hcon := (laws_heldBank.calls kh _ _ (mg1) _ _ (mg2) (1) (pg) _ (Kd.R_reads' (rows2 (HS.get 2 rfl)).1).2.2 (Nat.le_trans (Nat.le_of_eq (Kd.R_reads' (rows2 (HS.get 2 rfl)).1).1.symm) (Kd.R_reads' (rows2 (HS.get 2 rfl)).1).2.1) (Kd.R_reads' (rows2 (HS.get 2 rfl)).2.1).2.2 (Nat.le_trans (Nat.le_of_eq (Kd.R_reads' (rows2 (HS.get 2 rfl)).2.1).1.symm) (Kd.R_reads' (rows2 (HS.get 2 rfl)).2.1).2.1) KH.out); rw [EG1.out, EG2.out] at hcon; refine hcon.mono ?_; clear hcon; rintro e v39 ⟨rfl, hbv39⟩; have HZ := Nat.le_trans HZ hbv39.size; have HS := HS.below hbv39; have HB := Aside0.mk (bthen HB.out hbv39); clear hbv39))
          clear hl5_0 hl5_1
          go_upto_region 31 with (fail)
          go_upto_region 33 with (fail)
          go_wp2
          go_ret
          exact ⟨rfl, HB.out⟩
end Go.Proofs.Ytplkhmfoehjaoaa.PFnExactMoved
