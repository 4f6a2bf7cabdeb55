-- by xprint.py (this session's program over the kit's print)
import Derived.Test.YtplkhmfoehjaoaaPFnExactLayx0
import Derived.Test.YtplkhmfoehjaoaaPFnExactLayx1
import Derived.Test.YtplkhmfoehjaoaaPFnExactLayx2
import Derived.Test.YtplkhmfoehjaoaaPFnExactLayx3
import Derived.Test.YtplkhmfoehjaoaaPFnExactLayx4
import Derived.Test.YtplkhmfoehjaoaaPFnExactLayx5
namespace Go.Proofs.Ytplkhmfoehjaoaa.PFnExactLay
open Go.RowKit Go.Proofs.YtplkhmfoehjaoaaW.PrintWords Go.Proofs.YtplkhmfoehjaoaaW.PrintLast Go.Proofs.YtplkhmfoehjaoaaW.PrintMore
attribute [local go_sem] max2_int min2_int max_two min_two max_three min_three max_four min_four   -- for this text's walks alone
set_option linter.unusedVariables false
set_option linter.unusedSimpArgs false

/-! ### laws_FnExactLay: function 4 -/
mutual
def laws_FnExactLay.j0 : Nat → Int → ByteArray → Bool → Bool → Bool → List ByteArray → List (S102) → List ByteArray → List (S65) → List ByteArray → List (S65) → List ByteArray → List (S65) → Option (Bool)
  | 0, _, _, _, _, _, _, _, _, _, _, _, _, _ => none
  | k + 1, x1, x2, x9, x12, x51, x222000, x222001, x237000, x237001, x244000, x244001, x252000, x252001 => if x51 = true then (some false) else ((laws_toDevice.f k x222000 x222001).bind fun bt253 => ((laws_eqDevice.f k x244000 x244001 bt253.1 bt253.2).bind fun t259 => (if t259 = true then ((laws_markDevice.f k x244000 x244001 1).bind fun bt260 => (if bt260.1 < 0 then (laws_FnExactLay.j1 k x1 x2 x9 true x222000 x222001 x237000 x237001 x252000 x252001) else ((laws_eqDevice.f k x252000 x252001 x237000 x237001).bind fun t263 => (if t263 = true then (laws_FnExactLay.j1 k x1 x2 x9 (x12 != x9) x222000 x222001 x237000 x237001 x252000 x252001) else (laws_FnExactLay.j1 k x1 x2 x9 true x222000 x222001 x237000 x237001 x252000 x252001))))) else (some false))))
def laws_FnExactLay.j1 : Nat → Int → ByteArray → Bool → Bool → List ByteArray → List (S102) → List ByteArray → List (S65) → List ByteArray → List (S65) → Option (Bool)
  | 0, _, _, _, _, _, _, _, _, _, _ => none
  | k + 1, x1, x2, x9, x72, x222000, x222001, x237000, x237001, x252000, x252001 => if x72 = true then (some false) else ((laws_markDevice.f k x252000 x252001 1).bind fun bt264 => ((laws_heldDevice.f k bt264.2.1 bt264.2.2 1).bind fun t267 => (if t267 < 0 then (some false) else (if t267 = bt264.1 then ((laws_toDevice.f k x222000 x222001).bind fun bt268 => ((impl_Lay.f bt268.1 bt268.2 x1 x2).bind fun bt274 => ((laws_eqDevice.f k bt274.1 bt274.2.1 x237000 x237001).bind fun t282 => (if t282 = true then (laws_FnExactLay.j2 k bt264.1 (bt274.2.2 != x9) bt264.2.1 bt264.2.2) else (laws_FnExactLay.j2 k bt264.1 true bt264.2.1 bt264.2.2))))) else (some false)))))
def laws_FnExactLay.j2 : Nat → Int → Bool → List ByteArray → List (S65) → Option (Bool)
  | 0, _, _, _, _ => none
  | k + 1, x14, x100, x252000, x252001 => if x100 = true then (some false) else ((laws_heldDevice.f k x252000 x252001 1).bind fun t283 => (if t283 < 0 then (some false) else (if t283 = x14 then (some true) else (some false))))
end
def laws_FnExactLay.f (k : Nat) (l0_0 : List ByteArray) (l0_1 : List (S102)) (a1 : Int) (a2 : ByteArray) : Option (Bool) := if (a2.size : Int) > 1048576 then (some true) else ((laws_szDevice.f k l0_0 l0_1 1048576).bind fun t222 => (if t222 < 0 then (some true) else ((laws_toDevice.f k l0_0 l0_1).bind fun bt223 => ((spec_Lay.f k bt223.1 bt223.2 a1 a2).bind fun bt229 => ((laws_toDevice.f k l0_0 l0_1).bind fun bt237 => ((impl_Lay.f bt237.1 bt237.2 a1 a2).bind fun bt244 => ((laws_eqDevice.f k bt244.1 bt244.2.1 bt229.1 bt229.2.1).bind fun t252 => (if t252 = true then (laws_FnExactLay.j0 k a1 a2 bt229.2.2 bt244.2.2 (bt244.2.2 != bt229.2.2) l0_0 l0_1 bt229.1 bt229.2.1 bt237.1 bt237.2 bt244.1 bt244.2.1) else (laws_FnExactLay.j0 k a1 a2 bt229.2.2 bt244.2.2 true l0_0 l0_1 bt229.1 bt229.2.1 bt237.1 bt237.2 bt244.1 bt244.2.1)))))))))
theorem laws_FnExactLay.mono_l : ∀ k, (∀ y0 y1 y2 y3 y4 y5 y6 y7 y8 y9 y10 y11 y12, LeO (laws_FnExactLay.j0 k y0 y1 y2 y3 y4 y5 y6 y7 y8 y9 y10 y11 y12) (laws_FnExactLay.j0 (k + 1) y0 y1 y2 y3 y4 y5 y6 y7 y8 y9 y10 y11 y12)) ∧ (∀ y0 y1 y2 y3 y4 y5 y6 y7 y8 y9, LeO (laws_FnExactLay.j1 k y0 y1 y2 y3 y4 y5 y6 y7 y8 y9) (laws_FnExactLay.j1 (k + 1) y0 y1 y2 y3 y4 y5 y6 y7 y8 y9)) ∧ (∀ y0 y1 y2 y3, LeO (laws_FnExactLay.j2 k y0 y1 y2 y3) (laws_FnExactLay.j2 (k + 1) y0 y1 y2 y3))
  | 0 => ⟨fun _ _ _ _ _ _ _ _ _ _ _ _ _ r h => by simp [laws_FnExactLay.j0] at h, fun _ _ _ _ _ _ _ _ _ _ r h => by simp [laws_FnExactLay.j1] at h, fun _ _ _ _ r h => by simp [laws_FnExactLay.j2] at h⟩
  | k + 1 => by
    obtain ⟨ih0, ih1, ih2⟩ := laws_FnExactLay.mono_l k
    refine ⟨?_, ?_, ?_⟩
    · intro y0 y1 y2 y3 y4 y5 y6 y7 y8 y9 y10 y11 y12
      unfold laws_FnExactLay.j0
      repeat' first
      | (with_reducible exact ih0 _ _ _ _ _ _ _ _ _ _ _ _ _)
      | (with_reducible exact ih1 _ _ _ _ _ _ _ _ _ _)
      | (with_reducible exact ih2 _ _ _ _)
      | (with_reducible exact laws_eqDevice.mono _ _ _ _ _)
      | (with_reducible exact laws_heldDevice.mono _ _ _ _)
      | (with_reducible exact laws_markDevice.mono _ _ _ _)
      | (with_reducible exact laws_szDevice.mono _ _ _ _)
      | (with_reducible exact laws_toDevice.mono _ _ _)
      | (with_reducible exact spec_Lay.mono _ _ _ _ _)
      | (with_reducible exact LeO.refl _)
      | (with_reducible exact LeO.none _)
      | (with_reducible refine LeO.ite ?_ ?_)
      | (with_reducible refine LeO.bind ?_ (fun _ => ?_))
      | exact ih0 _ _ _ _ _ _ _ _ _ _ _ _ _
      | exact ih1 _ _ _ _ _ _ _ _ _ _
      | exact ih2 _ _ _ _
      | exact laws_eqDevice.mono _ _ _ _ _
      | exact laws_heldDevice.mono _ _ _ _
      | exact laws_markDevice.mono _ _ _ _
      | exact laws_szDevice.mono _ _ _ _
      | exact laws_toDevice.mono _ _ _
      | exact spec_Lay.mono _ _ _ _ _
      | exact LeO.none _
      | refine LeO.ite ?_ ?_
      | refine LeO.bind ?_ (fun _ => ?_)
    · intro y0 y1 y2 y3 y4 y5 y6 y7 y8 y9
      unfold laws_FnExactLay.j1
      repeat' first
      | (with_reducible exact ih0 _ _ _ _ _ _ _ _ _ _ _ _ _)
      | (with_reducible exact ih1 _ _ _ _ _ _ _ _ _ _)
      | (with_reducible exact ih2 _ _ _ _)
      | (with_reducible exact laws_eqDevice.mono _ _ _ _ _)
      | (with_reducible exact laws_heldDevice.mono _ _ _ _)
      | (with_reducible exact laws_markDevice.mono _ _ _ _)
      | (with_reducible exact laws_szDevice.mono _ _ _ _)
      | (with_reducible exact laws_toDevice.mono _ _ _)
      | (with_reducible exact spec_Lay.mono _ _ _ _ _)
      | (with_reducible exact LeO.refl _)
      | (with_reducible exact LeO.none _)
      | (with_reducible refine LeO.ite ?_ ?_)
      | (with_reducible refine LeO.bind ?_ (fun _ => ?_))
      | exact ih0 _ _ _ _ _ _ _ _ _ _ _ _ _
      | exact ih1 _ _ _ _ _ _ _ _ _ _
      | exact ih2 _ _ _ _
      | exact laws_eqDevice.mono _ _ _ _ _
      | exact laws_heldDevice.mono _ _ _ _
      | exact laws_markDevice.mono _ _ _ _
      | exact laws_szDevice.mono _ _ _ _
      | exact laws_toDevice.mono _ _ _
      | exact spec_Lay.mono _ _ _ _ _
      | exact LeO.none _
      | refine LeO.ite ?_ ?_
      | refine LeO.bind ?_ (fun _ => ?_)
    · intro y0 y1 y2 y3
      unfold laws_FnExactLay.j2
      repeat' first
      | (with_reducible exact ih0 _ _ _ _ _ _ _ _ _ _ _ _ _)
      | (with_reducible exact ih1 _ _ _ _ _ _ _ _ _ _)
      | (with_reducible exact ih2 _ _ _ _)
      | (with_reducible exact laws_eqDevice.mono _ _ _ _ _)
      | (with_reducible exact laws_heldDevice.mono _ _ _ _)
      | (with_reducible exact laws_markDevice.mono _ _ _ _)
      | (with_reducible exact laws_szDevice.mono _ _ _ _)
      | (with_reducible exact laws_toDevice.mono _ _ _)
      | (with_reducible exact spec_Lay.mono _ _ _ _ _)
      | (with_reducible exact LeO.refl _)
      | (with_reducible exact LeO.none _)
      | (with_reducible refine LeO.ite ?_ ?_)
      | (with_reducible refine LeO.bind ?_ (fun _ => ?_))
      | exact ih0 _ _ _ _ _ _ _ _ _ _ _ _ _
      | exact ih1 _ _ _ _ _ _ _ _ _ _
      | exact ih2 _ _ _ _
      | exact laws_eqDevice.mono _ _ _ _ _
      | exact laws_heldDevice.mono _ _ _ _
      | exact laws_markDevice.mono _ _ _ _
      | exact laws_szDevice.mono _ _ _ _
      | exact laws_toDevice.mono _ _ _
      | exact spec_Lay.mono _ _ _ _ _
      | exact LeO.none _
      | refine LeO.ite ?_ ?_
      | refine LeO.bind ?_ (fun _ => ?_)
theorem laws_FnExactLay.mono : ∀ a0 a1 a2 a3 k, LeO (laws_FnExactLay.f k a0 a1 a2 a3) (laws_FnExactLay.f (k + 1) a0 a1 a2 a3) := by
  intro a0 a1 a2 a3 k
  obtain ⟨ih0, ih1, ih2⟩ := laws_FnExactLay.mono_l k
  unfold laws_FnExactLay.f
  repeat' first
      | (with_reducible exact ih0 _ _ _ _ _ _ _ _ _ _ _ _ _)
      | (with_reducible exact ih1 _ _ _ _ _ _ _ _ _ _)
      | (with_reducible exact ih2 _ _ _ _)
      | (with_reducible exact laws_eqDevice.mono _ _ _ _ _)
      | (with_reducible exact laws_heldDevice.mono _ _ _ _)
      | (with_reducible exact laws_markDevice.mono _ _ _ _)
      | (with_reducible exact laws_szDevice.mono _ _ _ _)
      | (with_reducible exact laws_toDevice.mono _ _ _)
      | (with_reducible exact spec_Lay.mono _ _ _ _ _)
      | (with_reducible exact LeO.refl _)
      | (with_reducible exact LeO.none _)
      | (with_reducible refine LeO.ite ?_ ?_)
      | (with_reducible refine LeO.bind ?_ (fun _ => ?_))
      | exact ih0 _ _ _ _ _ _ _ _ _ _ _ _ _
      | exact ih1 _ _ _ _ _ _ _ _ _ _
      | exact ih2 _ _ _ _
      | exact laws_eqDevice.mono _ _ _ _ _
      | exact laws_heldDevice.mono _ _ _ _
      | exact laws_markDevice.mono _ _ _ _
      | exact laws_szDevice.mono _ _ _ _
      | exact laws_toDevice.mono _ _ _
      | exact spec_Lay.mono _ _ _ _ _
      | exact LeO.none _
      | refine LeO.ite ?_ ?_
      | refine LeO.bind ?_ (fun _ => ?_)
set_option maxHeartbeats 8000000 in
set_option maxRecDepth 100000 in
theorem laws_FnExactLay.calls (k : Nat) (A0_0 : Option Addr) (c0_0 : Nat) (l0_0 : List ByteArray) (A0_1 : Option Addr) (c0_1 : Nat) (l0_1 : List (S102)) (a1 : Int) (a2 : ByteArray) (r : Bool) (w : World) (hr0_0 : Kd.C Kd.string w A0_0 l0_0.length l0_0) (hc0_0 : l0_0.length ≤ c0_0) (hr0_1 : Kd.C k102 w A0_1 l0_1.length l0_1) (hc0_1 : l0_1.length ≤ c0_1) (h : laws_FnExactLay.f k l0_0 l0_1 a1 a2 = some r) (hT : Aside0 (r = true)) :
    Calls Try.prog 4 #[.agg #[.slice A0_0 l0_0.length c0_0, .slice A0_1 l0_1.length c0_1], .int .i64 a1, .string a2] w fun e w' => e = .returned (.bool r) ∧ Below w.heap.size w w' := by
  have hu40 := Try.underlying40
  have hu44 := Try.underlying44
  have HR0_0 := Aside0.mk hr0_0
  have HC0_0 := Aside0.mk hc0_0
  clear hr0_0 hc0_0
  have HR0_1 := Aside0.mk hr0_1
  have HC0_1 := Aside0.mk hc0_1
  clear hr0_1 hc0_1
  have HB := Aside0.mk (Below.refl w.heap.size w)
  have H : (if (a2.size : Int) > 1048576 then (some true) else ((laws_szDevice.f k l0_0 l0_1 1048576).bind fun t222 => (if t222 < 0 then (some true) else ((laws_toDevice.f k l0_0 l0_1).bind fun bt223 => ((spec_Lay.f k bt223.1 bt223.2 a1 a2).bind fun bt229 => ((laws_toDevice.f k l0_0 l0_1).bind fun bt237 => ((impl_Lay.f bt237.1 bt237.2 a1 a2).bind fun bt244 => ((laws_eqDevice.f k bt244.1 bt244.2.1 bt229.1 bt229.2.1).bind fun t252 => (if t252 = true then (laws_FnExactLay.j0 k a1 a2 bt229.2.2 bt244.2.2 (bt244.2.2 != bt229.2.2) l0_0 l0_1 bt229.1 bt229.2.1 bt237.1 bt237.2 bt244.1 bt244.2.1) else (laws_FnExactLay.j0 k a1 a2 bt229.2.2 bt244.2.2 true l0_0 l0_1 bt229.1 bt229.2.1 bt237.1 bt237.2 bt244.1 bt244.2.1)))))))))) = some r := h
  clear h
  by_cases c4 : (a2.size : Int) > 1048576
  · rw [if_pos c4] at H
    have c4b0 : decide (1048576 < (a2.size : Int)) = true := decide_eq_true c4
    have c4b1 : decide (1048576 < a2.size) = true := decide_eq_true (by omega)
    clear c4
    obtain rfl := Option.some.inj H
    go_enter Try.func4, Try.ntmps4
    go_wp2_with (first | ((with_reducible refine gate_dst (N := 3) rfl ?_); refine box_event ?hg (N := 3) ?hd (cs := #[.slice A0_0 l0_0.length c0_0, .slice A0_1 l0_1.length c0_1]) (t := 40) ?hr ?_; (case hd => rfl); (case hg => rfl); (case hr => first | (go_simp; done) | (go_simp; rfl)); intro gb221 hg w5 hbox hb; have n0_ := Aside0.mk (below_step (by repeat (first | (with_reducible first | exact HB.out | apply below_alloc | apply pw_below_drewN | apply below_drew1) | exact HB.out)) hb); have n1_ := Aside0.mk (hbox); have n2_ := Aside0.mk ((by rw [hg]; exact (below_size (by repeat (first | (with_reducible first | exact HB.out | apply below_alloc | apply pw_below_drewN | apply below_drew1) | exact HB.out))) : w.heap.size ≤ gb221)); have n3_ := Aside0.mk ((by rw [hg]; exact (below_size (by repeat (first | (with_reducible first | exact HB.out | apply below_alloc | apply pw_below_drewN | apply below_drew1) | exact HB.out))) : w.heap.size ≤ gb221)); clear HB; have HB := n0_; have BK221 := n1_; have GW221 := n2_; have GE221 := n3_; clear n0_ n1_ n2_ n3_; clear hb hbox hg))
    go_ret
    exact ⟨by first | rfl | (simp [errW_none, errW_some] <;> rfl) | (simp [*, errW_none, errW_some] <;> rfl), by repeat (first | (with_reducible first | exact HB.out | apply below_alloc | apply pw_below_drewN | apply below_drew1 | refine below_set ?_ GE221.out) | exact HB.out)⟩
  · rw [if_neg c4] at H
    have c4b0 : decide (1048576 < (a2.size : Int)) = false := decide_eq_false c4
    have c4b1 : decide (1048576 < a2.size) = false := decide_eq_false (by omega)
    clear c4
    replace H := Option.bind_eq_some_iff.mp H
    obtain ⟨t222, A60, H⟩ := H
    replace H : (if t222 < 0 then (some true) else ((laws_toDevice.f k l0_0 l0_1).bind fun bt223 => ((spec_Lay.f k bt223.1 bt223.2 a1 a2).bind fun bt229 => ((laws_toDevice.f k l0_0 l0_1).bind fun bt237 => ((impl_Lay.f bt237.1 bt237.2 a1 a2).bind fun bt244 => ((laws_eqDevice.f k bt244.1 bt244.2.1 bt229.1 bt229.2.1).bind fun t252 => (if t252 = true then (laws_FnExactLay.j0 k a1 a2 bt229.2.2 bt244.2.2 (bt244.2.2 != bt229.2.2) l0_0 l0_1 bt229.1 bt229.2.1 bt237.1 bt237.2 bt244.1 bt244.2.1) else (laws_FnExactLay.j0 k a1 a2 bt229.2.2 bt244.2.2 true l0_0 l0_1 bt229.1 bt229.2.1 bt237.1 bt237.2 bt244.1 bt244.2.1)))))))) = some r := H
    have A6 := Aside0.mk A60
    clear A60
    by_cases c7 : t222 < 0
    · rw [if_pos c7] at H
      have c7b0 : decide (t222 < 0) = true := decide_eq_true c7
      clear c7
      obtain rfl := Option.some.inj H
      go_enter Try.func4, Try.ntmps4
      go_wp2_with (first | ((with_reducible refine gate_dst (N := 3) rfl ?_); refine box_event ?hg (N := 3) ?hd (cs := #[.slice A0_0 l0_0.length c0_0, .slice A0_1 l0_1.length c0_1]) (t := 40) ?hr ?_; (case hd => rfl); (case hg => rfl); (case hr => first | (go_simp; done) | (go_simp; rfl)); intro gb221 hg w8 hbox hb; have n0_ := Aside0.mk (below_step (by repeat (first | (with_reducible first | exact HB.out | apply below_alloc | apply pw_below_drewN | apply below_drew1) | exact HB.out)) hb); have n1_ := Aside0.mk (hbox); have n2_ := Aside0.mk ((by rw [hg]; exact (below_size (by repeat (first | (with_reducible first | exact HB.out | apply below_alloc | apply pw_below_drewN | apply below_drew1) | exact HB.out))) : w.heap.size ≤ gb221)); have n3_ := Aside0.mk ((by rw [hg]; exact (below_size (by repeat (first | (with_reducible first | exact HB.out | apply below_alloc | apply pw_below_drewN | apply below_drew1) | exact HB.out))) : w.heap.size ≤ gb221)); clear HB; have HB := n0_; have BK221 := n1_; have GW221 := n2_; have GE221 := n3_; clear n0_ n1_ n2_ n3_; clear hb hbox hg; have hcz9_0 : w8.cell? ⟨gb221, 0, none⟩ = some (.slice A0_0 l0_0.length c0_0) := (blk_cell BK221.out 0).trans rfl; have hcz9_1 : w8.cell? ⟨gb221, 1, none⟩ = some (.slice A0_1 l0_1.length c0_1) := (blk_cell BK221.out 1).trans rfl; have hfz9_0 := blk_frozen BK221.out 0; have hfz9_1 := blk_frozen BK221.out 1) | ((with_reducible refine gate_callee (f := 14) rfl ?_); refine goesL_ (some 23) rfl rfl Try.func14 (by kernel_rfl) rfl #[.agg #[.slice A0_0 l0_0.length c0_0, .slice A0_1 l0_1.length c0_1], .int .i64 1048576] rfl (by (try simp only [List.map_toArray, List.map_cons, List.map_nil]); first | done | rfl | (simp only [List.length_drop, List.length_take]; rfl)) ?_; (with_reducible refine (laws_szDevice.calls k _ _ l0_0 _ _ l0_1 1048576 t222 _ ?side1 ?side2 ?side3 ?side4 A6.out).mono ?_); (case side1 => repeat (first | exact (Kd.C_below HR0_0.out HB.out) | (with_reducible refine Kd.C_alloc ?_ _) | (with_reducible refine Kd.C_drewN ?_ _) | (with_reducible refine Kd.C_drew ?_))); (case side2 => exact HC0_0.out); (case side3 => repeat (first | exact (Kd.C_below HR0_1.out HB.out) | (with_reducible refine Kd.C_alloc ?_ _) | (with_reducible refine Kd.C_drewN ?_ _) | (with_reducible refine Kd.C_drew ?_))); (case side4 => exact HC0_1.out); rintro e w10 ⟨rfl, hb⟩; refine ⟨_, rfl, ?_⟩; have n0_ := Aside0.mk (blk_below (g := gb221) (o := .cells #[.slice A0_0 l0_0.length c0_0, .slice A0_1 l0_1.length c0_1] 40 (0, 0)) (by (with_reducible repeat (first | refine blk_drewN ?_ _ | refine blk_drew ?_ | refine blk_alloc ?_ _)); exact BK221.out) hb); have n1_ := Aside0.mk (below_step (by repeat (first | (with_reducible first | exact HB.out | apply below_alloc | apply pw_below_drewN | apply below_drew1 | refine below_set ?_ GE221.out) | exact HB.out)) hb); clear BK221; clear HB; have BK221 := n0_; have HB := n1_; clear n0_ n1_; (try clear hb); (try clear hb2); (try clear hk); (try clear hi)))
      go_ret
      exact ⟨by first | rfl | (simp [errW_none, errW_some] <;> rfl) | (simp [*, errW_none, errW_some] <;> rfl), by repeat (first | (with_reducible first | exact HB.out | apply below_alloc | apply pw_below_drewN | apply below_drew1 | refine below_set ?_ GE221.out) | exact HB.out)⟩
    · rw [if_neg c7] at H
      have c7b0 : decide (t222 < 0) = false := decide_eq_false c7
      clear c7
      replace H := Option.bind_eq_some_iff.mp H
      obtain ⟨⟨t223, t226⟩, A110, H⟩ := H
      replace H : ((spec_Lay.f k t223 t226 a1 a2).bind fun bt229 => ((laws_toDevice.f k l0_0 l0_1).bind fun bt237 => ((impl_Lay.f bt237.1 bt237.2 a1 a2).bind fun bt244 => ((laws_eqDevice.f k bt244.1 bt244.2.1 bt229.1 bt229.2.1).bind fun t252 => (if t252 = true then (laws_FnExactLay.j0 k a1 a2 bt229.2.2 bt244.2.2 (bt244.2.2 != bt229.2.2) l0_0 l0_1 bt229.1 bt229.2.1 bt237.1 bt237.2 bt244.1 bt244.2.1) else (laws_FnExactLay.j0 k a1 a2 bt229.2.2 bt244.2.2 true l0_0 l0_1 bt229.1 bt229.2.1 bt237.1 bt237.2 bt244.1 bt244.2.1)))))) = some r := H
      have A11 := Aside0.mk A110
      clear A110
      replace H := Option.bind_eq_some_iff.mp H
      obtain ⟨⟨t229, t232, t235⟩, A120, H⟩ := H
      replace H : ((laws_toDevice.f k l0_0 l0_1).bind fun bt237 => ((impl_Lay.f bt237.1 bt237.2 a1 a2).bind fun bt244 => ((laws_eqDevice.f k bt244.1 bt244.2.1 t229 t232).bind fun t252 => (if t252 = true then (laws_FnExactLay.j0 k a1 a2 t235 bt244.2.2 (bt244.2.2 != t235) l0_0 l0_1 t229 t232 bt237.1 bt237.2 bt244.1 bt244.2.1) else (laws_FnExactLay.j0 k a1 a2 t235 bt244.2.2 true l0_0 l0_1 t229 t232 bt237.1 bt237.2 bt244.1 bt244.2.1))))) = some r := H
      have A12 := Aside0.mk A120
      clear A120
      replace H := Option.bind_eq_some_iff.mp H
      obtain ⟨⟨t237, t240⟩, A130, H⟩ := H
      replace H : ((impl_Lay.f t237 t240 a1 a2).bind fun bt244 => ((laws_eqDevice.f k bt244.1 bt244.2.1 t229 t232).bind fun t252 => (if t252 = true then (laws_FnExactLay.j0 k a1 a2 t235 bt244.2.2 (bt244.2.2 != t235) l0_0 l0_1 t229 t232 t237 t240 bt244.1 bt244.2.1) else (laws_FnExactLay.j0 k a1 a2 t235 bt244.2.2 true l0_0 l0_1 t229 t232 t237 t240 bt244.1 bt244.2.1)))) = some r := H
      have A13 := Aside0.mk A130
      clear A130
      replace H := Option.bind_eq_some_iff.mp H
      obtain ⟨⟨t244, t247, t250⟩, A140, H⟩ := H
      replace H : ((laws_eqDevice.f k t244 t247 t229 t232).bind fun t252 => (if t252 = true then (laws_FnExactLay.j0 k a1 a2 t235 t250 (t250 != t235) l0_0 l0_1 t229 t232 t237 t240 t244 t247) else (laws_FnExactLay.j0 k a1 a2 t235 t250 true l0_0 l0_1 t229 t232 t237 t240 t244 t247))) = some r := H
      have A14 := Aside0.mk A140
      clear A140
      have HC15 := Aside0.mk H
      clear H
      go_enter Try.func4, Try.ntmps4
      go_upto_region 10 with (first | ((with_reducible refine gate_dst (N := 3) rfl ?_); refine box_event ?hg (N := 3) ?hd (cs := #[.slice A0_0 l0_0.length c0_0, .slice A0_1 l0_1.length c0_1]) (t := 40) ?hr ?_; (case hd => rfl); (case hg => rfl); (case hr => first | (go_simp; done) | (go_simp; rfl)); intro gb221 hg w16 hbox hb; have n0_ := Aside0.mk (below_step (by repeat (first | (with_reducible first | exact HB.out | apply below_alloc | apply pw_below_drewN | apply below_drew1) | exact HB.out)) hb); have n1_ := Aside0.mk (hbox); have n2_ := Aside0.mk ((by rw [hg]; exact (below_size (by repeat (first | (with_reducible first | exact HB.out | apply below_alloc | apply pw_below_drewN | apply below_drew1) | exact HB.out))) : w.heap.size ≤ gb221)); have n3_ := Aside0.mk ((by rw [hg]; exact (below_size (by repeat (first | (with_reducible first | exact HB.out | apply below_alloc | apply pw_below_drewN | apply below_drew1) | exact HB.out))) : w.heap.size ≤ gb221)); clear HB; have HB := n0_; have BK221 := n1_; have GW221 := n2_; have GE221 := n3_; clear n0_ n1_ n2_ n3_; clear hb hbox hg; have hcz17_0 : w16.cell? ⟨gb221, 0, none⟩ = some (.slice A0_0 l0_0.length c0_0) := (blk_cell BK221.out 0).trans rfl; have hcz17_1 : w16.cell? ⟨gb221, 1, none⟩ = some (.slice A0_1 l0_1.length c0_1) := (blk_cell BK221.out 1).trans rfl; have hfz17_0 := blk_frozen BK221.out 0; have hfz17_1 := blk_frozen BK221.out 1) | ((with_reducible refine gate_callee (f := 14) rfl ?_); refine goesL_ (some 23) rfl rfl Try.func14 (by kernel_rfl) rfl #[.agg #[.slice A0_0 l0_0.length c0_0, .slice A0_1 l0_1.length c0_1], .int .i64 1048576] rfl (by (try simp only [List.map_toArray, List.map_cons, List.map_nil]); first | done | rfl | (simp only [List.length_drop, List.length_take]; rfl)) ?_; (with_reducible refine (laws_szDevice.calls k _ _ l0_0 _ _ l0_1 1048576 t222 _ ?side1 ?side2 ?side3 ?side4 A6.out).mono ?_); (case side1 => repeat (first | exact (Kd.C_below HR0_0.out HB.out) | (with_reducible refine Kd.C_alloc ?_ _) | (with_reducible refine Kd.C_drewN ?_ _) | (with_reducible refine Kd.C_drew ?_))); (case side2 => exact HC0_0.out); (case side3 => repeat (first | exact (Kd.C_below HR0_1.out HB.out) | (with_reducible refine Kd.C_alloc ?_ _) | (with_reducible refine Kd.C_drewN ?_ _) | (with_reducible refine Kd.C_drew ?_))); (case side4 => exact HC0_1.out); rintro e w18 ⟨rfl, hb⟩; refine ⟨_, rfl, ?_⟩; have n0_ := Aside0.mk (blk_below (g := gb221) (o := .cells #[.slice A0_0 l0_0.length c0_0, .slice A0_1 l0_1.length c0_1] 40 (0, 0)) (by (with_reducible repeat (first | refine blk_drewN ?_ _ | refine blk_drew ?_ | refine blk_alloc ?_ _)); exact BK221.out) hb); have n1_ := Aside0.mk (below_step (by repeat (first | (with_reducible first | exact HB.out | apply below_alloc | apply pw_below_drewN | apply below_drew1 | refine below_set ?_ GE221.out) | exact HB.out)) hb); clear BK221; clear HB; have BK221 := n0_; have HB := n1_; clear n0_ n1_; (try clear hb); (try clear hb2); (try clear hk); (try clear hi); have hcz19_0 : w18.cell? ⟨gb221, 0, none⟩ = some (.slice A0_0 l0_0.length c0_0) := (blk_cell BK221.out 0).trans rfl; have hcz19_1 : w18.cell? ⟨gb221, 1, none⟩ = some (.slice A0_1 l0_1.length c0_1) := (blk_cell BK221.out 1).trans rfl; have hfz19_0 := blk_frozen BK221.out 0; have hfz19_1 := blk_frozen BK221.out 1) | ((with_reducible refine gate_callee (f := 16) rfl ?_); refine goesL_ (some 28) rfl rfl Try.func16 (by kernel_rfl) rfl #[.agg #[.slice A0_0 l0_0.length c0_0, .slice A0_1 l0_1.length c0_1]] rfl (by (try simp only [List.map_toArray, List.map_cons, List.map_nil]); first | done | rfl | (simp only [List.length_drop, List.length_take]; rfl)) ?_; (with_reducible refine (laws_toDevice.calls k _ _ l0_0 _ _ l0_1 t223 t226 _ ?side1 ?side2 ?side3 ?side4 A11.out).mono ?_); (case side1 => repeat (first | exact (Kd.C_below HR0_0.out HB.out) | (with_reducible refine Kd.C_alloc ?_ _) | (with_reducible refine Kd.C_drewN ?_ _) | (with_reducible refine Kd.C_drew ?_))); (case side2 => exact HC0_0.out); (case side3 => repeat (first | exact (Kd.C_below HR0_1.out HB.out) | (with_reducible refine Kd.C_alloc ?_ _) | (with_reducible refine Kd.C_drewN ?_ _) | (with_reducible refine Kd.C_drew ?_))); (case side4 => exact HC0_1.out); rintro e w20 ⟨v224, v227, rfl, ho0, ho1, hb⟩; refine ⟨_, rfl, ?_⟩; have n0_ := Aside0.mk (Kd.R_lower ho0 (below_size (by repeat (first | (with_reducible first | exact HB.out | apply below_alloc | apply pw_below_drewN | apply below_drew1 | refine below_set ?_ GE221.out) | exact HB.out)))); have n1_ := Aside0.mk (Kd.R_lower ho1 (below_size (by repeat (first | (with_reducible first | exact HB.out | apply below_alloc | apply pw_below_drewN | apply below_drew1 | refine below_set ?_ GE221.out) | exact HB.out)))); have n2_ := Aside0.mk (blk_below (g := gb221) (o := .cells #[.slice A0_0 l0_0.length c0_0, .slice A0_1 l0_1.length c0_1] 40 (0, 0)) (by (with_reducible repeat (first | refine blk_drewN ?_ _ | refine blk_drew ?_ | refine blk_alloc ?_ _)); exact BK221.out) hb); have n3_ := Aside0.mk (below_step (by repeat (first | (with_reducible first | exact HB.out | apply below_alloc | apply pw_below_drewN | apply below_drew1 | refine below_set ?_ GE221.out) | exact HB.out)) hb); clear BK221; clear HB; have HO225 := n0_; have HO228 := n1_; have BK221 := n2_; have HB := n3_; clear n0_ n1_ n2_ n3_; (try clear hb); (try clear hb2); (try clear hk); (try clear hi); (try clear ho0); (try clear ho1); obtain ⟨Ao21, co21, eo21⟩ := Kd.R_slice HO225.out; subst eo21; obtain ⟨Ao22, co22, eo22⟩ := Kd.R_slice HO228.out; subst eo22) | ((with_reducible refine gate_callee (f := 15) rfl ?_); refine goesL_ (some 31) rfl rfl Try.func15 (by kernel_rfl) rfl #[.agg #[.slice Ao21 t223.length co21, .slice Ao22 t226.length co22], .int .i64 a1, .string a2] rfl (by (try simp only [List.map_toArray, List.map_cons, List.map_nil]); first | done | rfl | (simp only [List.length_drop, List.length_take]; rfl)) ?_; (with_reducible refine (spec_Lay.calls k _ _ t223 _ _ t226 a1 a2 t229 t232 t235 _ ?side1 ?side2 ?side3 ?side4 A12.out).mono ?_); (case side1 => repeat (first | exact (Kd.R_reads' HO225.out).2.2 | (with_reducible refine Kd.C_alloc ?_ _) | (with_reducible refine Kd.C_drewN ?_ _) | (with_reducible refine Kd.C_drew ?_))); (case side2 => exact (Kd.R_reads' HO225.out).2.1); (case side3 => repeat (first | exact (Kd.R_reads' HO228.out).2.2 | (with_reducible refine Kd.C_alloc ?_ _) | (with_reducible refine Kd.C_drewN ?_ _) | (with_reducible refine Kd.C_drew ?_))); (case side4 => exact (Kd.R_reads' HO228.out).2.1); rintro e w23 ⟨v230, v233, rfl, ho0, ho1, hb⟩; refine ⟨_, rfl, ?_⟩; have n0_ := Aside0.mk (Kd.R_elder' (by (with_reducible repeat (first | apply Kd.R_alloc | apply Kd.R_drewN | apply Kd.R_drew)); exact HO225.out) (Kd.R_base ho0) hb); have n1_ := Aside0.mk (Kd.R_elder' (by (with_reducible repeat (first | apply Kd.R_alloc | apply Kd.R_drewN | apply Kd.R_drew)); exact HO228.out) (Kd.R_base ho1) hb); have n2_ := Aside0.mk (Kd.R_lower (Kd.R_new' ho0 (Kd.R_lt (by (with_reducible repeat (first | apply Kd.R_alloc | apply Kd.R_drewN | apply Kd.R_drew)); exact HO225.out))) (below_size (by repeat (first | (with_reducible first | exact HB.out | apply below_alloc | apply pw_below_drewN | apply below_drew1 | refine below_set ?_ GE221.out) | exact HB.out)))); have n3_ := Aside0.mk (Kd.R_lower (Kd.R_new' ho1 (Kd.R_lt (by (with_reducible repeat (first | apply Kd.R_alloc | apply Kd.R_drewN | apply Kd.R_drew)); exact HO228.out))) (below_size (by repeat (first | (with_reducible first | exact HB.out | apply below_alloc | apply pw_below_drewN | apply below_drew1 | refine below_set ?_ GE221.out) | exact HB.out)))); have n4_ := Aside0.mk (blk_below (g := gb221) (o := .cells #[.slice A0_0 l0_0.length c0_0, .slice A0_1 l0_1.length c0_1] 40 (0, 0)) (by (with_reducible repeat (first | refine blk_drewN ?_ _ | refine blk_drew ?_ | refine blk_alloc ?_ _)); exact BK221.out) hb); have n5_ := Aside0.mk (below_step (by repeat (first | (with_reducible first | exact HB.out | apply below_alloc | apply pw_below_drewN | apply below_drew1 | refine below_set ?_ GE221.out) | exact HB.out)) hb); clear HO225; clear HO228; clear BK221; clear HB; have HO225 := n0_; have HO228 := n1_; have HO231 := n2_; have HO234 := n3_; have BK221 := n4_; have HB := n5_; clear n0_ n1_ n2_ n3_ n4_ n5_; (try clear hb); (try clear hb2); (try clear hk); (try clear hi); (try clear ho0); (try clear ho1)) | ((with_reducible refine gate_dst (N := 8) rfl ?_); refine box_event ?hg (N := 8) ?hd (cs := #[.slice none 0 0, .slice none 0 0]) (t := 44) ?hr ?_; (case hd => rfl); (case hg => rfl); (case hr => first | (go_simp; done) | (go_simp; rfl)); intro gb236 hg w24 hbox hb; have n0_ := Aside0.mk (Kd.R_below (by (with_reducible repeat (first | apply Kd.R_alloc | apply Kd.R_drewN | apply Kd.R_drew)); exact HO225.out) hb); have n1_ := Aside0.mk (Kd.R_below (by (with_reducible repeat (first | apply Kd.R_alloc | apply Kd.R_drewN | apply Kd.R_drew)); exact HO228.out) hb); have n2_ := Aside0.mk (Kd.R_below (by (with_reducible repeat (first | apply Kd.R_alloc | apply Kd.R_drewN | apply Kd.R_drew)); exact HO231.out) hb); have n3_ := Aside0.mk (Kd.R_below (by (with_reducible repeat (first | apply Kd.R_alloc | apply Kd.R_drewN | apply Kd.R_drew)); exact HO234.out) hb); have n4_ := Aside0.mk (blk_below (g := gb221) (o := .cells #[.slice A0_0 l0_0.length c0_0, .slice A0_1 l0_1.length c0_1] 40 (0, 0)) (by (with_reducible repeat (first | refine blk_drewN ?_ _ | refine blk_drew ?_ | refine blk_alloc ?_ _)); exact BK221.out) hb); have n5_ := Aside0.mk (below_step (by repeat (first | (with_reducible first | exact HB.out | apply below_alloc | apply pw_below_drewN | apply below_drew1 | refine below_set ?_ GE221.out) | exact HB.out)) hb); have n6_ := Aside0.mk (hbox); have n7_ := Aside0.mk ((by rw [hg]; exact (below_size (by repeat (first | (with_reducible first | exact HB.out | apply below_alloc | apply pw_below_drewN | apply below_drew1 | refine below_set ?_ GE221.out) | exact HB.out))) : w.heap.size ≤ gb236)); have n8_ := Aside0.mk ((by rw [hg]; exact (below_size (by repeat (first | (with_reducible first | exact HB.out | apply below_alloc | apply pw_below_drewN | apply below_drew1 | refine below_set ?_ GE221.out) | exact HB.out))) : w.heap.size ≤ gb236)); have n9_ := Aside0.mk ((by rw [hg]; exact Nat.ne_of_lt (blk_lt (g := gb221) (o := .cells #[.slice A0_0 l0_0.length c0_0, .slice A0_1 l0_1.length c0_1] 40 (0, 0)) (by (with_reducible repeat (first | refine blk_drewN ?_ _ | refine blk_drew ?_ | refine blk_alloc ?_ _)); exact BK221.out)) : gb221 ≠ gb236)); have n10_ := Aside0.mk ((by rw [hg]; exact Nat.ne_of_gt (blk_lt (g := gb221) (o := .cells #[.slice A0_0 l0_0.length c0_0, .slice A0_1 l0_1.length c0_1] 40 (0, 0)) (by (with_reducible repeat (first | refine blk_drewN ?_ _ | refine blk_drew ?_ | refine blk_alloc ?_ _)); exact BK221.out)) : gb236 ≠ gb221)); clear HO225; clear HO228; clear HO231; clear HO234; clear BK221; clear HB; have HO225 := n0_; have HO228 := n1_; have HO231 := n2_; have HO234 := n3_; have BK221 := n4_; have HB := n5_; have BK236 := n6_; have GW236 := n7_; have GE236 := n8_; have NB221_236 := n9_; have NB236_221 := n10_; clear n0_ n1_ n2_ n3_ n4_ n5_ n6_ n7_ n8_ n9_ n10_; clear hb hbox hg; obtain ⟨Ao25, co25, eo25⟩ := Kd.R_slice HO231.out; subst eo25; have hnb26 := NB236_221.out; have hnc26 := NB221_236.out; have hcz27_0 : w24.cell? ⟨gb236, 0, none⟩ = some (.slice none 0 0) := (blk_cell BK236.out 0).trans rfl; have hcz27_1 : w24.cell? ⟨gb236, 1, none⟩ = some (.slice none 0 0) := (blk_cell BK236.out 1).trans rfl; have hfz27_0 := blk_frozen BK236.out 0; have hfz27_1 := blk_frozen BK236.out 1; obtain ⟨Ao28, co28, eo28⟩ := Kd.R_slice HO234.out; subst eo28; have hcz29_0 : w24.cell? ⟨gb221, 0, none⟩ = some (.slice A0_0 l0_0.length c0_0) := (blk_cell BK221.out 0).trans rfl; have hcz29_1 : w24.cell? ⟨gb221, 1, none⟩ = some (.slice A0_1 l0_1.length c0_1) := (blk_cell BK221.out 1).trans rfl; have hfz29_0 := blk_frozen BK221.out 0; have hfz29_1 := blk_frozen BK221.out 1) | ((with_reducible refine gate_callee (f := 16) rfl ?_); refine goesL_ (some 35) rfl rfl Try.func16 (by kernel_rfl) rfl #[.agg #[.slice A0_0 l0_0.length c0_0, .slice A0_1 l0_1.length c0_1]] rfl (by (try simp only [List.map_toArray, List.map_cons, List.map_nil]); first | done | rfl | (simp only [List.length_drop, List.length_take]; rfl)) ?_; (with_reducible refine (laws_toDevice.calls k _ _ l0_0 _ _ l0_1 t237 t240 _ ?side1 ?side2 ?side3 ?side4 A13.out).mono ?_); (case side1 => exact Kd.C_below HR0_0.out (by repeat (first | (with_reducible first | exact HB.out | apply below_alloc | apply pw_below_drewN | apply below_drew1 | refine below_set ?_ GE221.out | refine below_set ?_ GE236.out) | exact HB.out))); (case side2 => exact HC0_0.out); (case side3 => exact Kd.C_below HR0_1.out (by repeat (first | (with_reducible first | exact HB.out | apply below_alloc | apply pw_below_drewN | apply below_drew1 | refine below_set ?_ GE221.out | refine below_set ?_ GE236.out) | exact HB.out))); (case side4 => exact HC0_1.out); rintro e w30 ⟨v238, v241, rfl, ho0, ho1, hb⟩; refine ⟨_, rfl, ?_⟩; have n0_ := Aside0.mk (Kd.R_elder' (by (with_reducible repeat (first | apply Kd.R_alloc | apply Kd.R_drewN | apply Kd.R_drew)); exact (Kd.R_mono (Kd.R_far (p := ⟨gb236, 1, none⟩) (Kd.R_far (p := ⟨gb236, 0, none⟩) (Kd.R_types HO225.out BK236.out (by decide)) (fun _ hk => hk.2) (.slice Ao25 t229.length co25)) (fun _ hk => hk.2) (.slice Ao28 t232.length co28)) (fun _ h_ => h_.1))) (Kd.R_base ho0) hb); have n1_ := Aside0.mk (Kd.R_elder' (by (with_reducible repeat (first | apply Kd.R_alloc | apply Kd.R_drewN | apply Kd.R_drew)); exact (Kd.R_mono (Kd.R_far (p := ⟨gb236, 1, none⟩) (Kd.R_far (p := ⟨gb236, 0, none⟩) (Kd.R_types HO228.out BK236.out (by decide)) (fun _ hk => hk.2) (.slice Ao25 t229.length co25)) (fun _ hk => hk.2) (.slice Ao28 t232.length co28)) (fun _ h_ => h_.1))) (Kd.R_base ho1) hb); have n2_ := Aside0.mk (Kd.R_elder' (by (with_reducible repeat (first | apply Kd.R_alloc | apply Kd.R_drewN | apply Kd.R_drew)); exact (Kd.R_mono (Kd.R_far (p := ⟨gb236, 1, none⟩) (Kd.R_far (p := ⟨gb236, 0, none⟩) (Kd.R_types HO231.out BK236.out (by decide)) (fun _ hk => hk.2) (.slice Ao25 t229.length co25)) (fun _ hk => hk.2) (.slice Ao28 t232.length co28)) (fun _ h_ => h_.1))) (Kd.R_base ho0) hb); have n3_ := Aside0.mk (Kd.R_elder' (by (with_reducible repeat (first | apply Kd.R_alloc | apply Kd.R_drewN | apply Kd.R_drew)); exact (Kd.R_mono (Kd.R_far (p := ⟨gb236, 1, none⟩) (Kd.R_far (p := ⟨gb236, 0, none⟩) (Kd.R_types HO234.out BK236.out (by decide)) (fun _ hk => hk.2) (.slice Ao25 t229.length co25)) (fun _ hk => hk.2) (.slice Ao28 t232.length co28)) (fun _ h_ => h_.1))) (Kd.R_base ho1) hb); have n4_ := Aside0.mk (Kd.R_lower (Kd.R_new' (Kd.R_new' ho0 (Kd.R_lt (by (with_reducible repeat (first | apply Kd.R_alloc | apply Kd.R_drewN | apply Kd.R_drew)); exact (Kd.R_mono (Kd.R_far (p := ⟨gb236, 1, none⟩) (Kd.R_far (p := ⟨gb236, 0, none⟩) (Kd.R_types HO225.out BK236.out (by decide)) (fun _ hk => hk.2) (.slice Ao25 t229.length co25)) (fun _ hk => hk.2) (.slice Ao28 t232.length co28)) (fun _ h_ => h_.1))))) (Kd.R_lt (by (with_reducible repeat (first | apply Kd.R_alloc | apply Kd.R_drewN | apply Kd.R_drew)); exact (Kd.R_mono (Kd.R_far (p := ⟨gb236, 1, none⟩) (Kd.R_far (p := ⟨gb236, 0, none⟩) (Kd.R_types HO231.out BK236.out (by decide)) (fun _ hk => hk.2) (.slice Ao25 t229.length co25)) (fun _ hk => hk.2) (.slice Ao28 t232.length co28)) (fun _ h_ => h_.1))))) (below_size (by repeat (first | (with_reducible first | exact HB.out | apply below_alloc | apply pw_below_drewN | apply below_drew1 | refine below_set ?_ GE221.out | refine below_set ?_ GE236.out) | exact HB.out)))); have n5_ := Aside0.mk (Kd.R_lower (Kd.R_new' (Kd.R_new' ho1 (Kd.R_lt (by (with_reducible repeat (first | apply Kd.R_alloc | apply Kd.R_drewN | apply Kd.R_drew)); exact (Kd.R_mono (Kd.R_far (p := ⟨gb236, 1, none⟩) (Kd.R_far (p := ⟨gb236, 0, none⟩) (Kd.R_types HO228.out BK236.out (by decide)) (fun _ hk => hk.2) (.slice Ao25 t229.length co25)) (fun _ hk => hk.2) (.slice Ao28 t232.length co28)) (fun _ h_ => h_.1))))) (Kd.R_lt (by (with_reducible repeat (first | apply Kd.R_alloc | apply Kd.R_drewN | apply Kd.R_drew)); exact (Kd.R_mono (Kd.R_far (p := ⟨gb236, 1, none⟩) (Kd.R_far (p := ⟨gb236, 0, none⟩) (Kd.R_types HO234.out BK236.out (by decide)) (fun _ hk => hk.2) (.slice Ao25 t229.length co25)) (fun _ hk => hk.2) (.slice Ao28 t232.length co28)) (fun _ h_ => h_.1))))) (below_size (by repeat (first | (with_reducible first | exact HB.out | apply below_alloc | apply pw_below_drewN | apply below_drew1 | refine below_set ?_ GE221.out | refine below_set ?_ GE236.out) | exact HB.out)))); have n6_ := Aside0.mk (blk_below (g := gb221) (o := .cells #[.slice A0_0 l0_0.length c0_0, .slice A0_1 l0_1.length c0_1] 40 (0, 0)) (by (with_reducible repeat (first | refine blk_drewN ?_ _ | refine blk_drew ?_ | refine blk_alloc ?_ _)); refine blk_far ?_ NB221_236.out _; (with_reducible repeat (first | refine blk_drewN ?_ _ | refine blk_drew ?_ | refine blk_alloc ?_ _)); refine blk_far ?_ NB221_236.out _; (with_reducible repeat (first | refine blk_drewN ?_ _ | refine blk_drew ?_ | refine blk_alloc ?_ _)); exact BK221.out) hb); have n7_ := Aside0.mk (blk_below (g := gb236) (o := .cells #[.slice Ao25 t229.length co25, .slice Ao28 t232.length co28] 44 (0, 0)) (by (with_reducible repeat (first | refine blk_drewN ?_ _ | refine blk_drew ?_ | refine blk_alloc ?_ _)); refine blk_put (cs := #[.slice Ao25 t229.length co25, .slice none 0 0]) ?_ 1 _ rfl; (with_reducible repeat (first | refine blk_drewN ?_ _ | refine blk_drew ?_ | refine blk_alloc ?_ _)); refine blk_put (cs := #[.slice none 0 0, .slice none 0 0]) ?_ 0 _ rfl; (with_reducible repeat (first | refine blk_drewN ?_ _ | refine blk_drew ?_ | refine blk_alloc ?_ _)); exact BK236.out) hb); have n8_ := Aside0.mk (below_step (by repeat (first | (with_reducible first | exact HB.out | apply below_alloc | apply pw_below_drewN | apply below_drew1 | refine below_set ?_ GE221.out | refine below_set ?_ GE236.out) | exact HB.out)) hb); clear HO225; clear HO228; clear HO231; clear HO234; clear BK221; clear BK236; clear HB; have HO225 := n0_; have HO228 := n1_; have HO231 := n2_; have HO234 := n3_; have HO239 := n4_; have HO242 := n5_; have BK221 := n6_; have BK236 := n7_; have HB := n8_; clear n0_ n1_ n2_ n3_ n4_ n5_ n6_ n7_ n8_; (try clear hb); (try clear hb2); (try clear hk); (try clear hi); (try clear ho0); (try clear ho1)) | ((with_reducible refine gate_dst (N := 10) rfl ?_); refine box_event ?hg (N := 10) ?hd (cs := #[.slice none 0 0, .slice none 0 0]) (t := 44) ?hr ?_; (case hd => rfl); (case hg => rfl); (case hr => first | (go_simp; done) | (go_simp; rfl)); intro gb243 hg w31 hbox hb; have n0_ := Aside0.mk (Kd.R_below (by (with_reducible repeat (first | apply Kd.R_alloc | apply Kd.R_drewN | apply Kd.R_drew)); exact HO225.out) hb); have n1_ := Aside0.mk (Kd.R_below (by (with_reducible repeat (first | apply Kd.R_alloc | apply Kd.R_drewN | apply Kd.R_drew)); exact HO228.out) hb); have n2_ := Aside0.mk (Kd.R_below (by (with_reducible repeat (first | apply Kd.R_alloc | apply Kd.R_drewN | apply Kd.R_drew)); exact HO231.out) hb); have n3_ := Aside0.mk (Kd.R_below (by (with_reducible repeat (first | apply Kd.R_alloc | apply Kd.R_drewN | apply Kd.R_drew)); exact HO234.out) hb); have n4_ := Aside0.mk (Kd.R_below (by (with_reducible repeat (first | apply Kd.R_alloc | apply Kd.R_drewN | apply Kd.R_drew)); exact HO239.out) hb); have n5_ := Aside0.mk (Kd.R_below (by (with_reducible repeat (first | apply Kd.R_alloc | apply Kd.R_drewN | apply Kd.R_drew)); exact HO242.out) hb); have n6_ := Aside0.mk (blk_below (g := gb221) (o := .cells #[.slice A0_0 l0_0.length c0_0, .slice A0_1 l0_1.length c0_1] 40 (0, 0)) (by (with_reducible repeat (first | refine blk_drewN ?_ _ | refine blk_drew ?_ | refine blk_alloc ?_ _)); exact BK221.out) hb); have n7_ := Aside0.mk (blk_below (g := gb236) (o := .cells #[.slice Ao25 t229.length co25, .slice Ao28 t232.length co28] 44 (0, 0)) (by (with_reducible repeat (first | refine blk_drewN ?_ _ | refine blk_drew ?_ | refine blk_alloc ?_ _)); exact BK236.out) hb); have n8_ := Aside0.mk (below_step (by repeat (first | (with_reducible first | exact HB.out | apply below_alloc | apply pw_below_drewN | apply below_drew1 | refine below_set ?_ GE221.out | refine below_set ?_ GE236.out) | exact HB.out)) hb); have n9_ := Aside0.mk (hbox); have n10_ := Aside0.mk ((by rw [hg]; exact (below_size (by repeat (first | (with_reducible first | exact HB.out | apply below_alloc | apply pw_below_drewN | apply below_drew1 | refine below_set ?_ GE221.out | refine below_set ?_ GE236.out) | exact HB.out))) : w.heap.size ≤ gb243)); have n11_ := Aside0.mk ((by rw [hg]; exact (below_size (by repeat (first | (with_reducible first | exact HB.out | apply below_alloc | apply pw_below_drewN | apply below_drew1 | refine below_set ?_ GE221.out | refine below_set ?_ GE236.out) | exact HB.out))) : w.heap.size ≤ gb243)); have n12_ := Aside0.mk ((by rw [hg]; exact Nat.ne_of_lt (blk_lt (g := gb221) (o := .cells #[.slice A0_0 l0_0.length c0_0, .slice A0_1 l0_1.length c0_1] 40 (0, 0)) (by (with_reducible repeat (first | refine blk_drewN ?_ _ | refine blk_drew ?_ | refine blk_alloc ?_ _)); exact BK221.out)) : gb221 ≠ gb243)); have n13_ := Aside0.mk ((by rw [hg]; exact Nat.ne_of_gt (blk_lt (g := gb221) (o := .cells #[.slice A0_0 l0_0.length c0_0, .slice A0_1 l0_1.length c0_1] 40 (0, 0)) (by (with_reducible repeat (first | refine blk_drewN ?_ _ | refine blk_drew ?_ | refine blk_alloc ?_ _)); exact BK221.out)) : gb243 ≠ gb221)); have n14_ := Aside0.mk ((by rw [hg]; exact Nat.ne_of_lt (blk_lt (g := gb236) (o := .cells #[.slice Ao25 t229.length co25, .slice Ao28 t232.length co28] 44 (0, 0)) (by (with_reducible repeat (first | refine blk_drewN ?_ _ | refine blk_drew ?_ | refine blk_alloc ?_ _)); exact BK236.out)) : gb236 ≠ gb243)); have n15_ := Aside0.mk ((by rw [hg]; exact Nat.ne_of_gt (blk_lt (g := gb236) (o := .cells #[.slice Ao25 t229.length co25, .slice Ao28 t232.length co28] 44 (0, 0)) (by (with_reducible repeat (first | refine blk_drewN ?_ _ | refine blk_drew ?_ | refine blk_alloc ?_ _)); exact BK236.out)) : gb243 ≠ gb236)); clear HO225; clear HO228; clear HO231; clear HO234; clear HO239; clear HO242; clear BK221; clear BK236; clear HB; have HO225 := n0_; have HO228 := n1_; have HO231 := n2_; have HO234 := n3_; have HO239 := n4_; have HO242 := n5_; have BK221 := n6_; have BK236 := n7_; have HB := n8_; have BK243 := n9_; have GW243 := n10_; have GE243 := n11_; have NB221_243 := n12_; have NB243_221 := n13_; have NB236_243 := n14_; have NB243_236 := n15_; clear n0_ n1_ n2_ n3_ n4_ n5_ n6_ n7_ n8_ n9_ n10_ n11_ n12_ n13_ n14_ n15_; clear hb hbox hg; obtain ⟨Ao32, co32, eo32⟩ := Kd.R_slice HO239.out; subst eo32; have hnb33 := NB243_221.out; have hnc33 := NB221_243.out; have hnb34 := NB243_236.out; have hnc34 := NB236_243.out; have hcz35_0 : w31.cell? ⟨gb243, 0, none⟩ = some (.slice none 0 0) := (blk_cell BK243.out 0).trans rfl; have hcz35_1 : w31.cell? ⟨gb243, 1, none⟩ = some (.slice none 0 0) := (blk_cell BK243.out 1).trans rfl; have hfz35_0 := blk_frozen BK243.out 0; have hfz35_1 := blk_frozen BK243.out 1; obtain ⟨Ao36, co36, eo36⟩ := Kd.R_slice HO242.out; subst eo36) | ((with_reducible refine gate_callee (f := 17) rfl ?_); refine goesL_ (some 40) rfl rfl Try.func17 (by kernel_rfl) rfl #[.agg #[.slice Ao32 t237.length co32, .slice Ao36 t240.length co36], .int .i64 a1, .string a2] rfl (by (try simp only [List.map_toArray, List.map_cons, List.map_nil]); first | done | rfl | (simp only [List.length_drop, List.length_take]; rfl)) ?_; (with_reducible refine (impl_Lay.calls _ _ t237 _ _ t240 a1 a2 t244 t247 t250 _ ?side1 ?side2 ?side3 ?side4 A14.out).mono ?_); (case side1 => refine (Kd.R_reads' (e := 9) (base := w.heap.size) (ok := fun k_ => ((True ∧ some k_ ≠ (.slice Ao21 t223.length co21 : Value).ownBlock) ∧ some k_ ≠ (.slice Ao25 t229.length co25 : Value).ownBlock)) (n := t237.length) (c := co32) ?_).2.2; exact (by (with_reducible repeat (first | apply Kd.R_alloc | apply Kd.R_drewN | apply Kd.R_drew)); exact (Kd.R_mono (Kd.R_far (p := ⟨gb243, 1, none⟩) (Kd.R_far (p := ⟨gb243, 0, none⟩) (Kd.R_types HO239.out BK243.out (by decide)) (fun _ hk => hk.2) (.slice Ao32 t237.length co32)) (fun _ hk => hk.2) (.slice Ao36 t240.length co36)) (fun _ h_ => h_.1)))); (case side2 => exact (Kd.R_reads' HO239.out).2.1); (case side3 => refine (Kd.R_reads' (e := 65) (base := w.heap.size) (ok := fun k_ => ((True ∧ some k_ ≠ (.slice Ao22 t226.length co22 : Value).ownBlock) ∧ some k_ ≠ (.slice Ao28 t232.length co28 : Value).ownBlock)) (n := t240.length) (c := co36) ?_).2.2; exact (by (with_reducible repeat (first | apply Kd.R_alloc | apply Kd.R_drewN | apply Kd.R_drew)); exact (Kd.R_mono (Kd.R_far (p := ⟨gb243, 1, none⟩) (Kd.R_far (p := ⟨gb243, 0, none⟩) (Kd.R_types HO242.out BK243.out (by decide)) (fun _ hk => hk.2) (.slice Ao32 t237.length co32)) (fun _ hk => hk.2) (.slice Ao36 t240.length co36)) (fun _ h_ => h_.1)))); (case side4 => exact (Kd.R_reads' HO242.out).2.1); rintro e w37 ⟨v245, v248, rfl, ho0, ho1, hb⟩; refine ⟨_, rfl, ?_⟩; have n0_ := Aside0.mk (Kd.R_elder' (by (with_reducible repeat (first | apply Kd.R_alloc | apply Kd.R_drewN | apply Kd.R_drew)); exact (Kd.R_mono (Kd.R_far (p := ⟨gb243, 1, none⟩) (Kd.R_far (p := ⟨gb243, 0, none⟩) (Kd.R_types HO225.out BK243.out (by decide)) (fun _ hk => hk.2) (.slice Ao32 t237.length co32)) (fun _ hk => hk.2) (.slice Ao36 t240.length co36)) (fun _ h_ => h_.1))) (Kd.R_base ho0) hb); have n1_ := Aside0.mk (Kd.R_elder' (by (with_reducible repeat (first | apply Kd.R_alloc | apply Kd.R_drewN | apply Kd.R_drew)); exact (Kd.R_mono (Kd.R_far (p := ⟨gb243, 1, none⟩) (Kd.R_far (p := ⟨gb243, 0, none⟩) (Kd.R_types HO228.out BK243.out (by decide)) (fun _ hk => hk.2) (.slice Ao32 t237.length co32)) (fun _ hk => hk.2) (.slice Ao36 t240.length co36)) (fun _ h_ => h_.1))) (Kd.R_base ho1) hb); have n2_ := Aside0.mk (Kd.R_elder' (by (with_reducible repeat (first | apply Kd.R_alloc | apply Kd.R_drewN | apply Kd.R_drew)); exact (Kd.R_mono (Kd.R_far (p := ⟨gb243, 1, none⟩) (Kd.R_far (p := ⟨gb243, 0, none⟩) (Kd.R_types HO231.out BK243.out (by decide)) (fun _ hk => hk.2) (.slice Ao32 t237.length co32)) (fun _ hk => hk.2) (.slice Ao36 t240.length co36)) (fun _ h_ => h_.1))) (Kd.R_base ho0) hb); have n3_ := Aside0.mk (Kd.R_elder' (by (with_reducible repeat (first | apply Kd.R_alloc | apply Kd.R_drewN | apply Kd.R_drew)); exact (Kd.R_mono (Kd.R_far (p := ⟨gb243, 1, none⟩) (Kd.R_far (p := ⟨gb243, 0, none⟩) (Kd.R_types HO234.out BK243.out (by decide)) (fun _ hk => hk.2) (.slice Ao32 t237.length co32)) (fun _ hk => hk.2) (.slice Ao36 t240.length co36)) (fun _ h_ => h_.1))) (Kd.R_base ho1) hb); have n4_ := Aside0.mk (Kd.R_elder' (by (with_reducible repeat (first | apply Kd.R_alloc | apply Kd.R_drewN | apply Kd.R_drew)); exact (Kd.R_mono (Kd.R_far (p := ⟨gb243, 1, none⟩) (Kd.R_far (p := ⟨gb243, 0, none⟩) (Kd.R_types HO239.out BK243.out (by decide)) (fun _ hk => hk.2) (.slice Ao32 t237.length co32)) (fun _ hk => hk.2) (.slice Ao36 t240.length co36)) (fun _ h_ => h_.1))) (Kd.R_base ho0) hb); have n5_ := Aside0.mk (Kd.R_elder' (by (with_reducible repeat (first | apply Kd.R_alloc | apply Kd.R_drewN | apply Kd.R_drew)); exact (Kd.R_mono (Kd.R_far (p := ⟨gb243, 1, none⟩) (Kd.R_far (p := ⟨gb243, 0, none⟩) (Kd.R_types HO242.out BK243.out (by decide)) (fun _ hk => hk.2) (.slice Ao32 t237.length co32)) (fun _ hk => hk.2) (.slice Ao36 t240.length co36)) (fun _ h_ => h_.1))) (Kd.R_base ho1) hb); have n6_ := Aside0.mk (Kd.R_lower (Kd.R_new' (Kd.R_new' (Kd.R_new' ho0 (Kd.R_lt (by (with_reducible repeat (first | apply Kd.R_alloc | apply Kd.R_drewN | apply Kd.R_drew)); exact (Kd.R_mono (Kd.R_far (p := ⟨gb243, 1, none⟩) (Kd.R_far (p := ⟨gb243, 0, none⟩) (Kd.R_types HO225.out BK243.out (by decide)) (fun _ hk => hk.2) (.slice Ao32 t237.length co32)) (fun _ hk => hk.2) (.slice Ao36 t240.length co36)) (fun _ h_ => h_.1))))) (Kd.R_lt (by (with_reducible repeat (first | apply Kd.R_alloc | apply Kd.R_drewN | apply Kd.R_drew)); exact (Kd.R_mono (Kd.R_far (p := ⟨gb243, 1, none⟩) (Kd.R_far (p := ⟨gb243, 0, none⟩) (Kd.R_types HO231.out BK243.out (by decide)) (fun _ hk => hk.2) (.slice Ao32 t237.length co32)) (fun _ hk => hk.2) (.slice Ao36 t240.length co36)) (fun _ h_ => h_.1))))) (Kd.R_lt (by (with_reducible repeat (first | apply Kd.R_alloc | apply Kd.R_drewN | apply Kd.R_drew)); exact (Kd.R_mono (Kd.R_far (p := ⟨gb243, 1, none⟩) (Kd.R_far (p := ⟨gb243, 0, none⟩) (Kd.R_types HO239.out BK243.out (by decide)) (fun _ hk => hk.2) (.slice Ao32 t237.length co32)) (fun _ hk => hk.2) (.slice Ao36 t240.length co36)) (fun _ h_ => h_.1))))) (below_size (by repeat (first | (with_reducible first | exact HB.out | apply below_alloc | apply pw_below_drewN | apply below_drew1 | refine below_set ?_ GE221.out | refine below_set ?_ GE236.out | refine below_set ?_ GE243.out) | exact HB.out)))); have n7_ := Aside0.mk (Kd.R_lower (Kd.R_new' (Kd.R_new' (Kd.R_new' ho1 (Kd.R_lt (by (with_reducible repeat (first | apply Kd.R_alloc | apply Kd.R_drewN | apply Kd.R_drew)); exact (Kd.R_mono (Kd.R_far (p := ⟨gb243, 1, none⟩) (Kd.R_far (p := ⟨gb243, 0, none⟩) (Kd.R_types HO228.out BK243.out (by decide)) (fun _ hk => hk.2) (.slice Ao32 t237.length co32)) (fun _ hk => hk.2) (.slice Ao36 t240.length co36)) (fun _ h_ => h_.1))))) (Kd.R_lt (by (with_reducible repeat (first | apply Kd.R_alloc | apply Kd.R_drewN | apply Kd.R_drew)); exact (Kd.R_mono (Kd.R_far (p := ⟨gb243, 1, none⟩) (Kd.R_far (p := ⟨gb243, 0, none⟩) (Kd.R_types HO234.out BK243.out (by decide)) (fun _ hk => hk.2) (.slice Ao32 t237.length co32)) (fun _ hk => hk.2) (.slice Ao36 t240.length co36)) (fun _ h_ => h_.1))))) (Kd.R_lt (by (with_reducible repeat (first | apply Kd.R_alloc | apply Kd.R_drewN | apply Kd.R_drew)); exact (Kd.R_mono (Kd.R_far (p := ⟨gb243, 1, none⟩) (Kd.R_far (p := ⟨gb243, 0, none⟩) (Kd.R_types HO242.out BK243.out (by decide)) (fun _ hk => hk.2) (.slice Ao32 t237.length co32)) (fun _ hk => hk.2) (.slice Ao36 t240.length co36)) (fun _ h_ => h_.1))))) (below_size (by repeat (first | (with_reducible first | exact HB.out | apply below_alloc | apply pw_below_drewN | apply below_drew1 | refine below_set ?_ GE221.out | refine below_set ?_ GE236.out | refine below_set ?_ GE243.out) | exact HB.out)))); have n8_ := Aside0.mk (blk_below (g := gb221) (o := .cells #[.slice A0_0 l0_0.length c0_0, .slice A0_1 l0_1.length c0_1] 40 (0, 0)) (by (with_reducible repeat (first | refine blk_drewN ?_ _ | refine blk_drew ?_ | refine blk_alloc ?_ _)); refine blk_far ?_ NB221_243.out _; (with_reducible repeat (first | refine blk_drewN ?_ _ | refine blk_drew ?_ | refine blk_alloc ?_ _)); refine blk_far ?_ NB221_243.out _; (with_reducible repeat (first | refine blk_drewN ?_ _ | refine blk_drew ?_ | refine blk_alloc ?_ _)); exact BK221.out) hb); have n9_ := Aside0.mk (blk_below (g := gb236) (o := .cells #[.slice Ao25 t229.length co25, .slice Ao28 t232.length co28] 44 (0, 0)) (by (with_reducible repeat (first | refine blk_drewN ?_ _ | refine blk_drew ?_ | refine blk_alloc ?_ _)); refine blk_far ?_ NB236_243.out _; (with_reducible repeat (first | refine blk_drewN ?_ _ | refine blk_drew ?_ | refine blk_alloc ?_ _)); refine blk_far ?_ NB236_243.out _; (with_reducible repeat (first | refine blk_drewN ?_ _ | refine blk_drew ?_ | refine blk_alloc ?_ _)); exact BK236.out) hb); have n10_ := Aside0.mk (blk_below (g := gb243) (o := .cells #[.slice Ao32 t237.length co32, .slice Ao36 t240.length co36] 44 (0, 0)) (by (with_reducible repeat (first | refine blk_drewN ?_ _ | refine blk_drew ?_ | refine blk_alloc ?_ _)); refine blk_put (cs := #[.slice Ao32 t237.length co32, .slice none 0 0]) ?_ 1 _ rfl; (with_reducible repeat (first | refine blk_drewN ?_ _ | refine blk_drew ?_ | refine blk_alloc ?_ _)); refine blk_put (cs := #[.slice none 0 0, .slice none 0 0]) ?_ 0 _ rfl; (with_reducible repeat (first | refine blk_drewN ?_ _ | refine blk_drew ?_ | refine blk_alloc ?_ _)); exact BK243.out) hb); have n11_ := Aside0.mk (below_step (by repeat (first | (with_reducible first | exact HB.out | apply below_alloc | apply pw_below_drewN | apply below_drew1 | refine below_set ?_ GE221.out | refine below_set ?_ GE236.out | refine below_set ?_ GE243.out) | exact HB.out)) hb); clear HO225; clear HO228; clear HO231; clear HO234; clear HO239; clear HO242; clear BK221; clear BK236; clear BK243; clear HB; have HO225 := n0_; have HO228 := n1_; have HO231 := n2_; have HO234 := n3_; have HO239 := n4_; have HO242 := n5_; have HO246 := n6_; have HO249 := n7_; have BK221 := n8_; have BK236 := n9_; have BK243 := n10_; have HB := n11_; clear n0_ n1_ n2_ n3_ n4_ n5_ n6_ n7_ n8_ n9_ n10_ n11_; (try clear hb); (try clear hb2); (try clear hk); (try clear hi); (try clear ho0); (try clear ho1)) | ((with_reducible refine gate_dst (N := 11) rfl ?_); refine box_event ?hg (N := 11) ?hd (cs := #[.slice none 0 0, .slice none 0 0]) (t := 44) ?hr ?_; (case hd => rfl); (case hg => rfl); (case hr => first | (go_simp; done) | (go_simp; rfl)); intro gb251 hg w38 hbox hb; have n0_ := Aside0.mk (Kd.R_below (by (with_reducible repeat (first | apply Kd.R_alloc | apply Kd.R_drewN | apply Kd.R_drew)); exact HO225.out) hb); have n1_ := Aside0.mk (Kd.R_below (by (with_reducible repeat (first | apply Kd.R_alloc | apply Kd.R_drewN | apply Kd.R_drew)); exact HO228.out) hb); have n2_ := Aside0.mk (Kd.R_below (by (with_reducible repeat (first | apply Kd.R_alloc | apply Kd.R_drewN | apply Kd.R_drew)); exact HO231.out) hb); have n3_ := Aside0.mk (Kd.R_below (by (with_reducible repeat (first | apply Kd.R_alloc | apply Kd.R_drewN | apply Kd.R_drew)); exact HO234.out) hb); have n4_ := Aside0.mk (Kd.R_below (by (with_reducible repeat (first | apply Kd.R_alloc | apply Kd.R_drewN | apply Kd.R_drew)); exact HO239.out) hb); have n5_ := Aside0.mk (Kd.R_below (by (with_reducible repeat (first | apply Kd.R_alloc | apply Kd.R_drewN | apply Kd.R_drew)); exact HO242.out) hb); have n6_ := Aside0.mk (Kd.R_below (by (with_reducible repeat (first | apply Kd.R_alloc | apply Kd.R_drewN | apply Kd.R_drew)); exact HO246.out) hb); have n7_ := Aside0.mk (Kd.R_below (by (with_reducible repeat (first | apply Kd.R_alloc | apply Kd.R_drewN | apply Kd.R_drew)); exact HO249.out) hb); have n8_ := Aside0.mk (blk_below (g := gb221) (o := .cells #[.slice A0_0 l0_0.length c0_0, .slice A0_1 l0_1.length c0_1] 40 (0, 0)) (by (with_reducible repeat (first | refine blk_drewN ?_ _ | refine blk_drew ?_ | refine blk_alloc ?_ _)); exact BK221.out) hb); have n9_ := Aside0.mk (blk_below (g := gb236) (o := .cells #[.slice Ao25 t229.length co25, .slice Ao28 t232.length co28] 44 (0, 0)) (by (with_reducible repeat (first | refine blk_drewN ?_ _ | refine blk_drew ?_ | refine blk_alloc ?_ _)); exact BK236.out) hb); have n10_ := Aside0.mk (blk_below (g := gb243) (o := .cells #[.slice Ao32 t237.length co32, .slice Ao36 t240.length co36] 44 (0, 0)) (by (with_reducible repeat (first | refine blk_drewN ?_ _ | refine blk_drew ?_ | refine blk_alloc ?_ _)); exact BK243.out) hb); have n11_ := Aside0.mk (below_step (by repeat (first | (with_reducible first | exact HB.out | apply below_alloc | apply pw_below_drewN | apply below_drew1 | refine below_set ?_ GE221.out | refine below_set ?_ GE236.out | refine below_set ?_ GE243.out) | exact HB.out)) hb); have n12_ := Aside0.mk (hbox); have n13_ := Aside0.mk ((by rw [hg]; exact (below_size (by repeat (first | (with_reducible first | exact HB.out | apply below_alloc | apply pw_below_drewN | apply below_drew1 | refine below_set ?_ GE221.out | refine below_set ?_ GE236.out | refine below_set ?_ GE243.out) | exact HB.out))) : w.heap.size ≤ gb251)); have n14_ := Aside0.mk ((by rw [hg]; exact (below_size (by repeat (first | (with_reducible first | exact HB.out | apply below_alloc | apply pw_below_drewN | apply below_drew1 | refine below_set ?_ GE221.out | refine below_set ?_ GE236.out | refine below_set ?_ GE243.out) | exact HB.out))) : w.heap.size ≤ gb251)); have n15_ := Aside0.mk ((by rw [hg]; exact Nat.ne_of_lt (blk_lt (g := gb221) (o := .cells #[.slice A0_0 l0_0.length c0_0, .slice A0_1 l0_1.length c0_1] 40 (0, 0)) (by (with_reducible repeat (first | refine blk_drewN ?_ _ | refine blk_drew ?_ | refine blk_alloc ?_ _)); exact BK221.out)) : gb221 ≠ gb251)); have n16_ := Aside0.mk ((by rw [hg]; exact Nat.ne_of_gt (blk_lt (g := gb221) (o := .cells #[.slice A0_0 l0_0.length c0_0, .slice A0_1 l0_1.length c0_1] 40 (0, 0)) (by (with_reducible repeat (first | refine blk_drewN ?_ _ | refine blk_drew ?_ | refine blk_alloc ?_ _)); exact BK221.out)) : gb251 ≠ gb221)); have n17_ := Aside0.mk ((by rw [hg]; exact Nat.ne_of_lt (blk_lt (g := gb236) (o := .cells #[.slice Ao25 t229.length co25, .slice Ao28 t232.length co28] 44 (0, 0)) (by (with_reducible repeat (first | refine blk_drewN ?_ _ | refine blk_drew ?_ | refine blk_alloc ?_ _)); exact BK236.out)) : gb236 ≠ gb251)); have n18_ := Aside0.mk ((by rw [hg]; exact Nat.ne_of_gt (blk_lt (g := gb236) (o := .cells #[.slice Ao25 t229.length co25, .slice Ao28 t232.length co28] 44 (0, 0)) (by (with_reducible repeat (first | refine blk_drewN ?_ _ | refine blk_drew ?_ | refine blk_alloc ?_ _)); exact BK236.out)) : gb251 ≠ gb236)); have n19_ := Aside0.mk ((by rw [hg]; exact Nat.ne_of_lt (blk_lt (g := gb243) (o := .cells #[.slice Ao32 t237.length co32, .slice Ao36 t240.length co36] 44 (0, 0)) (by (with_reducible repeat (first | refine blk_drewN ?_ _ | refine blk_drew ?_ | refine blk_alloc ?_ _)); exact BK243.out)) : gb243 ≠ gb251)); have n20_ := Aside0.mk ((by rw [hg]; exact Nat.ne_of_gt (blk_lt (g := gb243) (o := .cells #[.slice Ao32 t237.length co32, .slice Ao36 t240.length co36] 44 (0, 0)) (by (with_reducible repeat (first | refine blk_drewN ?_ _ | refine blk_drew ?_ | refine blk_alloc ?_ _)); exact BK243.out)) : gb251 ≠ gb243)); clear HO225; clear HO228; clear HO231; clear HO234; clear HO239; clear HO242; clear HO246; clear HO249; clear BK221; clear BK236; clear BK243; clear HB; have HO225 := n0_; have HO228 := n1_; have HO231 := n2_; have HO234 := n3_; have HO239 := n4_; have HO242 := n5_; have HO246 := n6_; have HO249 := n7_; have BK221 := n8_; have BK236 := n9_; have BK243 := n10_; have HB := n11_; have BK251 := n12_; have GW251 := n13_; have GE251 := n14_; have NB221_251 := n15_; have NB251_221 := n16_; have NB236_251 := n17_; have NB251_236 := n18_; have NB243_251 := n19_; have NB251_243 := n20_; clear n0_ n1_ n2_ n3_ n4_ n5_ n6_ n7_ n8_ n9_ n10_ n11_ n12_ n13_ n14_ n15_ n16_ n17_ n18_ n19_ n20_; clear hb hbox hg; obtain ⟨Ao39, co39, eo39⟩ := Kd.R_slice HO246.out; subst eo39; have hnb40 := NB251_221.out; have hnc40 := NB221_251.out; have hnb41 := NB251_236.out; have hnc41 := NB236_251.out; have hnb42 := NB251_243.out; have hnc42 := NB243_251.out; have hcz43_0 : w38.cell? ⟨gb251, 0, none⟩ = some (.slice none 0 0) := (blk_cell BK251.out 0).trans rfl; have hcz43_1 : w38.cell? ⟨gb251, 1, none⟩ = some (.slice none 0 0) := (blk_cell BK251.out 1).trans rfl; have hfz43_0 := blk_frozen BK251.out 0; have hfz43_1 := blk_frozen BK251.out 1; obtain ⟨Ao44, co44, eo44⟩ := Kd.R_slice HO249.out; subst eo44))
      (try simp only [Act.put, List.setIfInBounds_toArray, List.set_cons_zero, List.set_cons_succ])
      go_cut [51] (fun v51 wc => ∃ (kq : Nat) (x51_14 : Bool), v51 = .bool x51_14 ∧ Aside0 (laws_FnExactLay.j0 kq a1 a2 t235 t250 x51_14 l0_0 l0_1 t229 t232 t237 t240 t244 t247 = some r) ∧ Aside0 (kq ≤ k) ∧ Aside0 (Kd.R Kd.string 9 wc w.heap.size (fun k_ => some k_ ≠ ((.slice Ao32 t237.length co32) : Value).ownBlock ∧ some k_ ≠ ((.slice Ao39 t244.length co39) : Value).ownBlock) (.slice Ao25 t229.length co25) t229) ∧ Aside0 (Kd.R k65 65 wc w.heap.size (fun k_ => some k_ ≠ ((.slice Ao36 t240.length co36) : Value).ownBlock ∧ some k_ ≠ ((.slice Ao44 t247.length co44) : Value).ownBlock) (.slice Ao28 t232.length co28) t232) ∧ Aside0 (Kd.R Kd.string 9 wc w.heap.size (fun k_ => some k_ ≠ ((.slice Ao25 t229.length co25) : Value).ownBlock ∧ some k_ ≠ ((.slice Ao39 t244.length co39) : Value).ownBlock) (.slice Ao32 t237.length co32) t237) ∧ Aside0 (Kd.R k65 65 wc w.heap.size (fun k_ => some k_ ≠ ((.slice Ao28 t232.length co28) : Value).ownBlock ∧ some k_ ≠ ((.slice Ao44 t247.length co44) : Value).ownBlock) (.slice Ao36 t240.length co36) t240) ∧ Aside0 (Kd.R Kd.string 9 wc w.heap.size (fun k_ => some k_ ≠ ((.slice Ao25 t229.length co25) : Value).ownBlock ∧ some k_ ≠ ((.slice Ao32 t237.length co32) : Value).ownBlock) (.slice Ao39 t244.length co39) t244) ∧ Aside0 (Kd.R k65 65 wc w.heap.size (fun k_ => some k_ ≠ ((.slice Ao28 t232.length co28) : Value).ownBlock ∧ some k_ ≠ ((.slice Ao36 t240.length co36) : Value).ownBlock) (.slice Ao44 t247.length co44) t247) ∧ Aside0 (wc.heap[gb221]? = some (.cells #[(.slice A0_0 l0_0.length c0_0), (.slice A0_1 l0_1.length c0_1)] 40 (0, 0))) ∧ Aside0 (wc.heap[gb236]? = some (.cells #[(.slice Ao25 t229.length co25), (.slice Ao28 t232.length co28)] 44 (0, 0))) ∧ Aside0 (wc.heap[gb243]? = some (.cells #[(.slice Ao32 t237.length co32), (.slice Ao36 t240.length co36)] 44 (0, 0))) ∧ Aside0 (wc.heap[gb251]? = some (.cells #[(.slice Ao39 t244.length co39), (.slice Ao44 t247.length co44)] 44 (0, 0))) ∧ Aside0 (Below w.heap.size w wc))
      case first =>
        have H := HC15.out
        clear HC15
        replace H := Option.bind_eq_some_iff.mp H
        obtain ⟨t252, A450, H⟩ := H
        replace H : (if t252 = true then (laws_FnExactLay.j0 k a1 a2 t235 t250 (t250 != t235) l0_0 l0_1 t229 t232 t237 t240 t244 t247) else (laws_FnExactLay.j0 k a1 a2 t235 t250 true l0_0 l0_1 t229 t232 t237 t240 t244 t247)) = some r := H
        have A45 := Aside0.mk A450
        clear A450
        by_cases c46 : t252 = true
        · subst c46
          have H1 : (laws_FnExactLay.j0 k a1 a2 t235 t250 (t250 != t235) l0_0 l0_1 t229 t232 t237 t240 t244 t247) = some r := by rw [if_pos rfl] at H; exact H
          clear H
          have H := H1
          clear H1
          have H' := Aside0.mk H
          clear H
          have hnb47 := NB251_221.out
          have hnc47 := NB221_251.out
          have hnb48 := NB251_236.out
          have hnc48 := NB236_251.out
          have hnb49 := NB251_243.out
          have hnc49 := NB243_251.out
          have hcz50_0 : w38.cell? ⟨gb251, 0, none⟩ = some (.slice none 0 0) := (blk_cell BK251.out 0).trans rfl
          have hcz50_1 : w38.cell? ⟨gb251, 1, none⟩ = some (.slice none 0 0) := (blk_cell BK251.out 1).trans rfl
          have hfz50_0 := blk_frozen BK251.out 0
          have hfz50_1 := blk_frozen BK251.out 1
          have hnb51 := NB236_221.out
          have hnc51 := NB221_236.out
          have hnb52 := NB236_243.out
          have hnc52 := NB243_236.out
          have hcz53_0 : w38.cell? ⟨gb236, 0, none⟩ = some (.slice Ao25 t229.length co25) := (blk_cell BK236.out 0).trans rfl
          have hcz53_1 : w38.cell? ⟨gb236, 1, none⟩ = some (.slice Ao28 t232.length co28) := (blk_cell BK236.out 1).trans rfl
          have hfz53_0 := blk_frozen BK236.out 0
          have hfz53_1 := blk_frozen BK236.out 1
          go_wp2_with (first | ((with_reducible refine gate_callee (f := 18) rfl ?_); refine goesL_ (some 45) rfl rfl Try.func18 (by kernel_rfl) rfl #[.agg #[.slice Ao39 t244.length co39, .slice Ao44 t247.length co44], .agg #[.slice Ao25 t229.length co25, .slice Ao28 t232.length co28]] rfl (by (try simp only [List.map_toArray, List.map_cons, List.map_nil]); first | done | rfl | (simp only [List.length_drop, List.length_take]; rfl)) ?_; (with_reducible refine (laws_eqDevice.calls k _ _ t244 _ _ t247 _ _ t229 _ _ t232 true _ ?side1 ?side2 ?side3 ?side4 ?side5 ?side6 ?side7 ?side8 A45.out).mono ?_); (case side1 => refine (Kd.R_reads' (e := 9) (base := w.heap.size) (ok := fun k_ => (((True ∧ some k_ ≠ (.slice Ao21 t223.length co21 : Value).ownBlock) ∧ some k_ ≠ (.slice Ao25 t229.length co25 : Value).ownBlock) ∧ some k_ ≠ (.slice Ao32 t237.length co32 : Value).ownBlock)) (n := t244.length) (c := co39) ?_).2.2; exact (by (with_reducible repeat (first | apply Kd.R_alloc | apply Kd.R_drewN | apply Kd.R_drew)); exact (Kd.R_mono (Kd.R_far (p := ⟨gb251, 1, none⟩) (Kd.R_far (p := ⟨gb251, 0, none⟩) (Kd.R_types HO246.out BK251.out (by decide)) (fun _ hk => hk.2) (.slice Ao39 t244.length co39)) (fun _ hk => hk.2) (.slice Ao44 t247.length co44)) (fun _ h_ => h_.1)))); (case side2 => exact (Kd.R_reads' HO246.out).2.1); (case side3 => refine (Kd.R_reads' (e := 65) (base := w.heap.size) (ok := fun k_ => (((True ∧ some k_ ≠ (.slice Ao22 t226.length co22 : Value).ownBlock) ∧ some k_ ≠ (.slice Ao28 t232.length co28 : Value).ownBlock) ∧ some k_ ≠ (.slice Ao36 t240.length co36 : Value).ownBlock)) (n := t247.length) (c := co44) ?_).2.2; exact (by (with_reducible repeat (first | apply Kd.R_alloc | apply Kd.R_drewN | apply Kd.R_drew)); exact (Kd.R_mono (Kd.R_far (p := ⟨gb251, 1, none⟩) (Kd.R_far (p := ⟨gb251, 0, none⟩) (Kd.R_types HO249.out BK251.out (by decide)) (fun _ hk => hk.2) (.slice Ao39 t244.length co39)) (fun _ hk => hk.2) (.slice Ao44 t247.length co44)) (fun _ h_ => h_.1)))); (case side4 => exact (Kd.R_reads' HO249.out).2.1); (case side5 => refine (Kd.R_reads' (e := 9) (base := w.heap.size) (ok := fun k_ => (((True ∧ some k_ ≠ (.slice Ao21 t223.length co21 : Value).ownBlock) ∧ some k_ ≠ (.slice Ao32 t237.length co32 : Value).ownBlock) ∧ some k_ ≠ (.slice Ao39 t244.length co39 : Value).ownBlock)) (n := t229.length) (c := co25) ?_).2.2; exact (by (with_reducible repeat (first | apply Kd.R_alloc | apply Kd.R_drewN | apply Kd.R_drew)); exact (Kd.R_mono (Kd.R_far (p := ⟨gb251, 1, none⟩) (Kd.R_far (p := ⟨gb251, 0, none⟩) (Kd.R_types HO231.out BK251.out (by decide)) (fun _ hk => hk.2) (.slice Ao39 t244.length co39)) (fun _ hk => hk.2) (.slice Ao44 t247.length co44)) (fun _ h_ => h_.1)))); (case side6 => exact (Kd.R_reads' HO231.out).2.1); (case side7 => refine (Kd.R_reads' (e := 65) (base := w.heap.size) (ok := fun k_ => (((True ∧ some k_ ≠ (.slice Ao22 t226.length co22 : Value).ownBlock) ∧ some k_ ≠ (.slice Ao36 t240.length co36 : Value).ownBlock) ∧ some k_ ≠ (.slice Ao44 t247.length co44 : Value).ownBlock)) (n := t232.length) (c := co28) ?_).2.2; exact (by (with_reducible repeat (first | apply Kd.R_alloc | apply Kd.R_drewN | apply Kd.R_drew)); exact (Kd.R_mono (Kd.R_far (p := ⟨gb251, 1, none⟩) (Kd.R_far (p := ⟨gb251, 0, none⟩) (Kd.R_types HO234.out BK251.out (by decide)) (fun _ hk => hk.2) (.slice Ao39 t244.length co39)) (fun _ hk => hk.2) (.slice Ao44 t247.length co44)) (fun _ h_ => h_.1)))); (case side8 => exact (Kd.R_reads' HO234.out).2.1); rintro e w54 ⟨rfl, hb⟩; refine ⟨_, rfl, ?_⟩; have n0_ := Aside0.mk (Kd.R_below (by (with_reducible repeat (first | apply Kd.R_alloc | apply Kd.R_drewN | apply Kd.R_drew)); exact (Kd.R_mono (Kd.R_far (p := ⟨gb251, 1, none⟩) (Kd.R_far (p := ⟨gb251, 0, none⟩) (Kd.R_types HO225.out BK251.out (by decide)) (fun _ hk => hk.2) (.slice Ao39 t244.length co39)) (fun _ hk => hk.2) (.slice Ao44 t247.length co44)) (fun _ h_ => h_.1))) hb); have n1_ := Aside0.mk (Kd.R_below (by (with_reducible repeat (first | apply Kd.R_alloc | apply Kd.R_drewN | apply Kd.R_drew)); exact (Kd.R_mono (Kd.R_far (p := ⟨gb251, 1, none⟩) (Kd.R_far (p := ⟨gb251, 0, none⟩) (Kd.R_types HO228.out BK251.out (by decide)) (fun _ hk => hk.2) (.slice Ao39 t244.length co39)) (fun _ hk => hk.2) (.slice Ao44 t247.length co44)) (fun _ h_ => h_.1))) hb); have n2_ := Aside0.mk (Kd.R_below (by (with_reducible repeat (first | apply Kd.R_alloc | apply Kd.R_drewN | apply Kd.R_drew)); exact (Kd.R_mono (Kd.R_far (p := ⟨gb251, 1, none⟩) (Kd.R_far (p := ⟨gb251, 0, none⟩) (Kd.R_types HO231.out BK251.out (by decide)) (fun _ hk => hk.2) (.slice Ao39 t244.length co39)) (fun _ hk => hk.2) (.slice Ao44 t247.length co44)) (fun _ h_ => h_.1))) hb); have n3_ := Aside0.mk (Kd.R_below (by (with_reducible repeat (first | apply Kd.R_alloc | apply Kd.R_drewN | apply Kd.R_drew)); exact (Kd.R_mono (Kd.R_far (p := ⟨gb251, 1, none⟩) (Kd.R_far (p := ⟨gb251, 0, none⟩) (Kd.R_types HO234.out BK251.out (by decide)) (fun _ hk => hk.2) (.slice Ao39 t244.length co39)) (fun _ hk => hk.2) (.slice Ao44 t247.length co44)) (fun _ h_ => h_.1))) hb); have n4_ := Aside0.mk (Kd.R_below (by (with_reducible repeat (first | apply Kd.R_alloc | apply Kd.R_drewN | apply Kd.R_drew)); exact (Kd.R_mono (Kd.R_far (p := ⟨gb251, 1, none⟩) (Kd.R_far (p := ⟨gb251, 0, none⟩) (Kd.R_types HO239.out BK251.out (by decide)) (fun _ hk => hk.2) (.slice Ao39 t244.length co39)) (fun _ hk => hk.2) (.slice Ao44 t247.length co44)) (fun _ h_ => h_.1))) hb); have n5_ := Aside0.mk (Kd.R_below (by (with_reducible repeat (first | apply Kd.R_alloc | apply Kd.R_drewN | apply Kd.R_drew)); exact (Kd.R_mono (Kd.R_far (p := ⟨gb251, 1, none⟩) (Kd.R_far (p := ⟨gb251, 0, none⟩) (Kd.R_types HO242.out BK251.out (by decide)) (fun _ hk => hk.2) (.slice Ao39 t244.length co39)) (fun _ hk => hk.2) (.slice Ao44 t247.length co44)) (fun _ h_ => h_.1))) hb); have n6_ := Aside0.mk (Kd.R_below (by (with_reducible repeat (first | apply Kd.R_alloc | apply Kd.R_drewN | apply Kd.R_drew)); exact (Kd.R_mono (Kd.R_far (p := ⟨gb251, 1, none⟩) (Kd.R_far (p := ⟨gb251, 0, none⟩) (Kd.R_types HO246.out BK251.out (by decide)) (fun _ hk => hk.2) (.slice Ao39 t244.length co39)) (fun _ hk => hk.2) (.slice Ao44 t247.length co44)) (fun _ h_ => h_.1))) hb); have n7_ := Aside0.mk (Kd.R_below (by (with_reducible repeat (first | apply Kd.R_alloc | apply Kd.R_drewN | apply Kd.R_drew)); exact (Kd.R_mono (Kd.R_far (p := ⟨gb251, 1, none⟩) (Kd.R_far (p := ⟨gb251, 0, none⟩) (Kd.R_types HO249.out BK251.out (by decide)) (fun _ hk => hk.2) (.slice Ao39 t244.length co39)) (fun _ hk => hk.2) (.slice Ao44 t247.length co44)) (fun _ h_ => h_.1))) hb); have n8_ := Aside0.mk (blk_below (g := gb221) (o := .cells #[.slice A0_0 l0_0.length c0_0, .slice A0_1 l0_1.length c0_1] 40 (0, 0)) (by (with_reducible repeat (first | refine blk_drewN ?_ _ | refine blk_drew ?_ | refine blk_alloc ?_ _)); refine blk_far ?_ NB221_251.out _; (with_reducible repeat (first | refine blk_drewN ?_ _ | refine blk_drew ?_ | refine blk_alloc ?_ _)); refine blk_far ?_ NB221_251.out _; (with_reducible repeat (first | refine blk_drewN ?_ _ | refine blk_drew ?_ | refine blk_alloc ?_ _)); exact BK221.out) hb); have n9_ := Aside0.mk (blk_below (g := gb236) (o := .cells #[.slice Ao25 t229.length co25, .slice Ao28 t232.length co28] 44 (0, 0)) (by (with_reducible repeat (first | refine blk_drewN ?_ _ | refine blk_drew ?_ | refine blk_alloc ?_ _)); refine blk_far ?_ NB236_251.out _; (with_reducible repeat (first | refine blk_drewN ?_ _ | refine blk_drew ?_ | refine blk_alloc ?_ _)); refine blk_far ?_ NB236_251.out _; (with_reducible repeat (first | refine blk_drewN ?_ _ | refine blk_drew ?_ | refine blk_alloc ?_ _)); exact BK236.out) hb); have n10_ := Aside0.mk (blk_below (g := gb243) (o := .cells #[.slice Ao32 t237.length co32, .slice Ao36 t240.length co36] 44 (0, 0)) (by (with_reducible repeat (first | refine blk_drewN ?_ _ | refine blk_drew ?_ | refine blk_alloc ?_ _)); refine blk_far ?_ NB243_251.out _; (with_reducible repeat (first | refine blk_drewN ?_ _ | refine blk_drew ?_ | refine blk_alloc ?_ _)); refine blk_far ?_ NB243_251.out _; (with_reducible repeat (first | refine blk_drewN ?_ _ | refine blk_drew ?_ | refine blk_alloc ?_ _)); exact BK243.out) hb); have n11_ := Aside0.mk (blk_below (g := gb251) (o := .cells #[.slice Ao39 t244.length co39, .slice Ao44 t247.length co44] 44 (0, 0)) (by (with_reducible repeat (first | refine blk_drewN ?_ _ | refine blk_drew ?_ | refine blk_alloc ?_ _)); refine blk_put (cs := #[.slice Ao39 t244.length co39, .slice none 0 0]) ?_ 1 _ rfl; (with_reducible repeat (first | refine blk_drewN ?_ _ | refine blk_drew ?_ | refine blk_alloc ?_ _)); refine blk_put (cs := #[.slice none 0 0, .slice none 0 0]) ?_ 0 _ rfl; (with_reducible repeat (first | refine blk_drewN ?_ _ | refine blk_drew ?_ | refine blk_alloc ?_ _)); exact BK251.out) hb); have n12_ := Aside0.mk (below_step (by repeat (first | (with_reducible first | exact HB.out | apply below_alloc | apply pw_below_drewN | apply below_drew1 | refine below_set ?_ GE221.out | refine below_set ?_ GE236.out | refine below_set ?_ GE243.out | refine below_set ?_ GE251.out) | exact HB.out)) hb); clear HO225; clear HO228; clear HO231; clear HO234; clear HO239; clear HO242; clear HO246; clear HO249; clear BK221; clear BK236; clear BK243; clear BK251; clear HB; have HO225 := n0_; have HO228 := n1_; have HO231 := n2_; have HO234 := n3_; have HO239 := n4_; have HO242 := n5_; have HO246 := n6_; have HO249 := n7_; have BK221 := n8_; have BK236 := n9_; have BK243 := n10_; have BK251 := n11_; have HB := n12_; clear n0_ n1_ n2_ n3_ n4_ n5_ n6_ n7_ n8_ n9_ n10_ n11_ n12_; (try clear hb); (try clear hb2); (try clear hk); (try clear hi)))
          go_meet
          case rel => exact ⟨_, ((t250 != t235)), (by first | rfl | (simp; done) | (simp [*]; done)), H', ⟨by first | omega | exact Nat.le_refl _⟩, ⟨by (with_reducible repeat (first | apply Kd.R_alloc | apply Kd.R_drewN | apply Kd.R_drew)); exact Kd.R_mono HO231.out (fun _ hk => ⟨hk.1.2, hk.2⟩)⟩, ⟨by (with_reducible repeat (first | apply Kd.R_alloc | apply Kd.R_drewN | apply Kd.R_drew)); exact Kd.R_mono HO234.out (fun _ hk => ⟨hk.1.2, hk.2⟩)⟩, ⟨by (with_reducible repeat (first | apply Kd.R_alloc | apply Kd.R_drewN | apply Kd.R_drew)); exact Kd.R_mono HO239.out (fun _ hk => ⟨hk.1.2, hk.2⟩)⟩, ⟨by (with_reducible repeat (first | apply Kd.R_alloc | apply Kd.R_drewN | apply Kd.R_drew)); exact Kd.R_mono HO242.out (fun _ hk => ⟨hk.1.2, hk.2⟩)⟩, ⟨by (with_reducible repeat (first | apply Kd.R_alloc | apply Kd.R_drewN | apply Kd.R_drew)); exact Kd.R_mono HO246.out (fun _ hk => ⟨hk.1.2, hk.2⟩)⟩, ⟨by (with_reducible repeat (first | apply Kd.R_alloc | apply Kd.R_drewN | apply Kd.R_drew)); exact Kd.R_mono HO249.out (fun _ hk => ⟨hk.1.2, hk.2⟩)⟩, ⟨by (with_reducible repeat (first | refine blk_drewN ?_ _ | refine blk_drew ?_ | refine blk_alloc ?_ _)); exact BK221.out⟩, ⟨by (with_reducible repeat (first | refine blk_drewN ?_ _ | refine blk_drew ?_ | refine blk_alloc ?_ _)); exact BK236.out⟩, ⟨by (with_reducible repeat (first | refine blk_drewN ?_ _ | refine blk_drew ?_ | refine blk_alloc ?_ _)); exact BK243.out⟩, ⟨by (with_reducible repeat (first | refine blk_drewN ?_ _ | refine blk_drew ?_ | refine blk_alloc ?_ _)); exact BK251.out⟩, ⟨by repeat (first | (with_reducible first | exact HB.out | apply below_alloc | apply pw_below_drewN | apply below_drew1 | refine below_set ?_ GE221.out | refine below_set ?_ GE236.out | refine below_set ?_ GE243.out | refine below_set ?_ GE251.out) | exact HB.out)⟩⟩
        · replace c46 := Bool.eq_false_iff.mpr c46
          subst c46
          have H1 : (laws_FnExactLay.j0 k a1 a2 t235 t250 true l0_0 l0_1 t229 t232 t237 t240 t244 t247) = some r := by rw [if_neg (show ¬ (false = true) by decide)] at H; exact H
          clear H
          have H := H1
          clear H1
          have H' := Aside0.mk H
          clear H
          have hnb55 := NB251_221.out
          have hnc55 := NB221_251.out
          have hnb56 := NB251_236.out
          have hnc56 := NB236_251.out
          have hnb57 := NB251_243.out
          have hnc57 := NB243_251.out
          have hcz58_0 : w38.cell? ⟨gb251, 0, none⟩ = some (.slice none 0 0) := (blk_cell BK251.out 0).trans rfl
          have hcz58_1 : w38.cell? ⟨gb251, 1, none⟩ = some (.slice none 0 0) := (blk_cell BK251.out 1).trans rfl
          have hfz58_0 := blk_frozen BK251.out 0
          have hfz58_1 := blk_frozen BK251.out 1
          have hnb59 := NB236_221.out
          have hnc59 := NB221_236.out
          have hnb60 := NB236_243.out
          have hnc60 := NB243_236.out
          have hcz61_0 : w38.cell? ⟨gb236, 0, none⟩ = some (.slice Ao25 t229.length co25) := (blk_cell BK236.out 0).trans rfl
          have hcz61_1 : w38.cell? ⟨gb236, 1, none⟩ = some (.slice Ao28 t232.length co28) := (blk_cell BK236.out 1).trans rfl
          have hfz61_0 := blk_frozen BK236.out 0
          have hfz61_1 := blk_frozen BK236.out 1
          go_wp2_with (first | ((with_reducible refine gate_callee (f := 18) rfl ?_); refine goesL_ (some 45) rfl rfl Try.func18 (by kernel_rfl) rfl #[.agg #[.slice Ao39 t244.length co39, .slice Ao44 t247.length co44], .agg #[.slice Ao25 t229.length co25, .slice Ao28 t232.length co28]] rfl (by (try simp only [List.map_toArray, List.map_cons, List.map_nil]); first | done | rfl | (simp only [List.length_drop, List.length_take]; rfl)) ?_; (with_reducible refine (laws_eqDevice.calls k _ _ t244 _ _ t247 _ _ t229 _ _ t232 false _ ?side1 ?side2 ?side3 ?side4 ?side5 ?side6 ?side7 ?side8 A45.out).mono ?_); (case side1 => refine (Kd.R_reads' (e := 9) (base := w.heap.size) (ok := fun k_ => (((True ∧ some k_ ≠ (.slice Ao21 t223.length co21 : Value).ownBlock) ∧ some k_ ≠ (.slice Ao25 t229.length co25 : Value).ownBlock) ∧ some k_ ≠ (.slice Ao32 t237.length co32 : Value).ownBlock)) (n := t244.length) (c := co39) ?_).2.2; exact (by (with_reducible repeat (first | apply Kd.R_alloc | apply Kd.R_drewN | apply Kd.R_drew)); exact (Kd.R_mono (Kd.R_far (p := ⟨gb251, 1, none⟩) (Kd.R_far (p := ⟨gb251, 0, none⟩) (Kd.R_types HO246.out BK251.out (by decide)) (fun _ hk => hk.2) (.slice Ao39 t244.length co39)) (fun _ hk => hk.2) (.slice Ao44 t247.length co44)) (fun _ h_ => h_.1)))); (case side2 => exact (Kd.R_reads' HO246.out).2.1); (case side3 => refine (Kd.R_reads' (e := 65) (base := w.heap.size) (ok := fun k_ => (((True ∧ some k_ ≠ (.slice Ao22 t226.length co22 : Value).ownBlock) ∧ some k_ ≠ (.slice Ao28 t232.length co28 : Value).ownBlock) ∧ some k_ ≠ (.slice Ao36 t240.length co36 : Value).ownBlock)) (n := t247.length) (c := co44) ?_).2.2; exact (by (with_reducible repeat (first | apply Kd.R_alloc | apply Kd.R_drewN | apply Kd.R_drew)); exact (Kd.R_mono (Kd.R_far (p := ⟨gb251, 1, none⟩) (Kd.R_far (p := ⟨gb251, 0, none⟩) (Kd.R_types HO249.out BK251.out (by decide)) (fun _ hk => hk.2) (.slice Ao39 t244.length co39)) (fun _ hk => hk.2) (.slice Ao44 t247.length co44)) (fun _ h_ => h_.1)))); (case side4 => exact (Kd.R_reads' HO249.out).2.1); (case side5 => refine (Kd.R_reads' (e := 9) (base := w.heap.size) (ok := fun k_ => (((True ∧ some k_ ≠ (.slice Ao21 t223.length co21 : Value).ownBlock) ∧ some k_ ≠ (.slice Ao32 t237.length co32 : Value).ownBlock) ∧ some k_ ≠ (.slice Ao39 t244.length co39 : Value).ownBlock)) (n := t229.length) (c := co25) ?_).2.2; exact (by (with_reducible repeat (first | apply Kd.R_alloc | apply Kd.R_drewN | apply Kd.R_drew)); exact (Kd.R_mono (Kd.R_far (p := ⟨gb251, 1, none⟩) (Kd.R_far (p := ⟨gb251, 0, none⟩) (Kd.R_types HO231.out BK251.out (by decide)) (fun _ hk => hk.2) (.slice Ao39 t244.length co39)) (fun _ hk => hk.2) (.slice Ao44 t247.length co44)) (fun _ h_ => h_.1)))); (case side6 => exact (Kd.R_reads' HO231.out).2.1); (case side7 => refine (Kd.R_reads' (e := 65) (base := w.heap.size) (ok := fun k_ => (((True ∧ some k_ ≠ (.slice Ao22 t226.length co22 : Value).ownBlock) ∧ some k_ ≠ (.slice Ao36 t240.length co36 : Value).ownBlock) ∧ some k_ ≠ (.slice Ao44 t247.length co44 : Value).ownBlock)) (n := t232.length) (c := co28) ?_).2.2; exact (by (with_reducible repeat (first | apply Kd.R_alloc | apply Kd.R_drewN | apply Kd.R_drew)); exact (Kd.R_mono (Kd.R_far (p := ⟨gb251, 1, none⟩) (Kd.R_far (p := ⟨gb251, 0, none⟩) (Kd.R_types HO234.out BK251.out (by decide)) (fun _ hk => hk.2) (.slice Ao39 t244.length co39)) (fun _ hk => hk.2) (.slice Ao44 t247.length co44)) (fun _ h_ => h_.1)))); (case side8 => exact (Kd.R_reads' HO234.out).2.1); rintro e w62 ⟨rfl, hb⟩; refine ⟨_, rfl, ?_⟩; have n0_ := Aside0.mk (Kd.R_below (by (with_reducible repeat (first | apply Kd.R_alloc | apply Kd.R_drewN | apply Kd.R_drew)); exact (Kd.R_mono (Kd.R_far (p := ⟨gb251, 1, none⟩) (Kd.R_far (p := ⟨gb251, 0, none⟩) (Kd.R_types HO225.out BK251.out (by decide)) (fun _ hk => hk.2) (.slice Ao39 t244.length co39)) (fun _ hk => hk.2) (.slice Ao44 t247.length co44)) (fun _ h_ => h_.1))) hb); have n1_ := Aside0.mk (Kd.R_below (by (with_reducible repeat (first | apply Kd.R_alloc | apply Kd.R_drewN | apply Kd.R_drew)); exact (Kd.R_mono (Kd.R_far (p := ⟨gb251, 1, none⟩) (Kd.R_far (p := ⟨gb251, 0, none⟩) (Kd.R_types HO228.out BK251.out (by decide)) (fun _ hk => hk.2) (.slice Ao39 t244.length co39)) (fun _ hk => hk.2) (.slice Ao44 t247.length co44)) (fun _ h_ => h_.1))) hb); have n2_ := Aside0.mk (Kd.R_below (by (with_reducible repeat (first | apply Kd.R_alloc | apply Kd.R_drewN | apply Kd.R_drew)); exact (Kd.R_mono (Kd.R_far (p := ⟨gb251, 1, none⟩) (Kd.R_far (p := ⟨gb251, 0, none⟩) (Kd.R_types HO231.out BK251.out (by decide)) (fun _ hk => hk.2) (.slice Ao39 t244.length co39)) (fun _ hk => hk.2) (.slice Ao44 t247.length co44)) (fun _ h_ => h_.1))) hb); have n3_ := Aside0.mk (Kd.R_below (by (with_reducible repeat (first | apply Kd.R_alloc | apply Kd.R_drewN | apply Kd.R_drew)); exact (Kd.R_mono (Kd.R_far (p := ⟨gb251, 1, none⟩) (Kd.R_far (p := ⟨gb251, 0, none⟩) (Kd.R_types HO234.out BK251.out (by decide)) (fun _ hk => hk.2) (.slice Ao39 t244.length co39)) (fun _ hk => hk.2) (.slice Ao44 t247.length co44)) (fun _ h_ => h_.1))) hb); have n4_ := Aside0.mk (Kd.R_below (by (with_reducible repeat (first | apply Kd.R_alloc | apply Kd.R_drewN | apply Kd.R_drew)); exact (Kd.R_mono (Kd.R_far (p := ⟨gb251, 1, none⟩) (Kd.R_far (p := ⟨gb251, 0, none⟩) (Kd.R_types HO239.out BK251.out (by decide)) (fun _ hk => hk.2) (.slice Ao39 t244.length co39)) (fun _ hk => hk.2) (.slice Ao44 t247.length co44)) (fun _ h_ => h_.1))) hb); have n5_ := Aside0.mk (Kd.R_below (by (with_reducible repeat (first | apply Kd.R_alloc | apply Kd.R_drewN | apply Kd.R_drew)); exact (Kd.R_mono (Kd.R_far (p := ⟨gb251, 1, none⟩) (Kd.R_far (p := ⟨gb251, 0, none⟩) (Kd.R_types HO242.out BK251.out (by decide)) (fun _ hk => hk.2) (.slice Ao39 t244.length co39)) (fun _ hk => hk.2) (.slice Ao44 t247.length co44)) (fun _ h_ => h_.1))) hb); have n6_ := Aside0.mk (Kd.R_below (by (with_reducible repeat (first | apply Kd.R_alloc | apply Kd.R_drewN | apply Kd.R_drew)); exact (Kd.R_mono (Kd.R_far (p := ⟨gb251, 1, none⟩) (Kd.R_far (p := ⟨gb251, 0, none⟩) (Kd.R_types HO246.out BK251.out (by decide)) (fun _ hk => hk.2) (.slice Ao39 t244.length co39)) (fun _ hk => hk.2) (.slice Ao44 t247.length co44)) (fun _ h_ => h_.1))) hb); have n7_ := Aside0.mk (Kd.R_below (by (with_reducible repeat (first | apply Kd.R_alloc | apply Kd.R_drewN | apply Kd.R_drew)); exact (Kd.R_mono (Kd.R_far (p := ⟨gb251, 1, none⟩) (Kd.R_far (p := ⟨gb251, 0, none⟩) (Kd.R_types HO249.out BK251.out (by decide)) (fun _ hk => hk.2) (.slice Ao39 t244.length co39)) (fun _ hk => hk.2) (.slice Ao44 t247.length co44)) (fun _ h_ => h_.1))) hb); have n8_ := Aside0.mk (blk_below (g := gb221) (o := .cells #[.slice A0_0 l0_0.length c0_0, .slice A0_1 l0_1.length c0_1] 40 (0, 0)) (by (with_reducible repeat (first | refine blk_drewN ?_ _ | refine blk_drew ?_ | refine blk_alloc ?_ _)); refine blk_far ?_ NB221_251.out _; (with_reducible repeat (first | refine blk_drewN ?_ _ | refine blk_drew ?_ | refine blk_alloc ?_ _)); refine blk_far ?_ NB221_251.out _; (with_reducible repeat (first | refine blk_drewN ?_ _ | refine blk_drew ?_ | refine blk_alloc ?_ _)); exact BK221.out) hb); have n9_ := Aside0.mk (blk_below (g := gb236) (o := .cells #[.slice Ao25 t229.length co25, .slice Ao28 t232.length co28] 44 (0, 0)) (by (with_reducible repeat (first | refine blk_drewN ?_ _ | refine blk_drew ?_ | refine blk_alloc ?_ _)); refine blk_far ?_ NB236_251.out _; (with_reducible repeat (first | refine blk_drewN ?_ _ | refine blk_drew ?_ | refine blk_alloc ?_ _)); refine blk_far ?_ NB236_251.out _; (with_reducible repeat (first | refine blk_drewN ?_ _ | refine blk_drew ?_ | refine blk_alloc ?_ _)); exact BK236.out) hb); have n10_ := Aside0.mk (blk_below (g := gb243) (o := .cells #[.slice Ao32 t237.length co32, .slice Ao36 t240.length co36] 44 (0, 0)) (by (with_reducible repeat (first | refine blk_drewN ?_ _ | refine blk_drew ?_ | refine blk_alloc ?_ _)); refine blk_far ?_ NB243_251.out _; (with_reducible repeat (first | refine blk_drewN ?_ _ | refine blk_drew ?_ | refine blk_alloc ?_ _)); refine blk_far ?_ NB243_251.out _; (with_reducible repeat (first | refine blk_drewN ?_ _ | refine blk_drew ?_ | refine blk_alloc ?_ _)); exact BK243.out) hb); have n11_ := Aside0.mk (blk_below (g := gb251) (o := .cells #[.slice Ao39 t244.length co39, .slice Ao44 t247.length co44] 44 (0, 0)) (by (with_reducible repeat (first | refine blk_drewN ?_ _ | refine blk_drew ?_ | refine blk_alloc ?_ _)); refine blk_put (cs := #[.slice Ao39 t244.length co39, .slice none 0 0]) ?_ 1 _ rfl; (with_reducible repeat (first | refine blk_drewN ?_ _ | refine blk_drew ?_ | refine blk_alloc ?_ _)); refine blk_put (cs := #[.slice none 0 0, .slice none 0 0]) ?_ 0 _ rfl; (with_reducible repeat (first | refine blk_drewN ?_ _ | refine blk_drew ?_ | refine blk_alloc ?_ _)); exact BK251.out) hb); have n12_ := Aside0.mk (below_step (by repeat (first | (with_reducible first | exact HB.out | apply below_alloc | apply pw_below_drewN | apply below_drew1 | refine below_set ?_ GE221.out | refine below_set ?_ GE236.out | refine below_set ?_ GE243.out | refine below_set ?_ GE251.out) | exact HB.out)) hb); clear HO225; clear HO228; clear HO231; clear HO234; clear HO239; clear HO242; clear HO246; clear HO249; clear BK221; clear BK236; clear BK243; clear BK251; clear HB; have HO225 := n0_; have HO228 := n1_; have HO231 := n2_; have HO234 := n3_; have HO239 := n4_; have HO242 := n5_; have HO246 := n6_; have HO249 := n7_; have BK221 := n8_; have BK236 := n9_; have BK243 := n10_; have BK251 := n11_; have HB := n12_; clear n0_ n1_ n2_ n3_ n4_ n5_ n6_ n7_ n8_ n9_ n10_ n11_ n12_; (try clear hb); (try clear hb2); (try clear hk); (try clear hi)))
          go_meet
          case rel => exact ⟨_, (true), (by first | rfl | (simp; done) | (simp [*]; done)), H', ⟨by first | omega | exact Nat.le_refl _⟩, ⟨by (with_reducible repeat (first | apply Kd.R_alloc | apply Kd.R_drewN | apply Kd.R_drew)); exact Kd.R_mono HO231.out (fun _ hk => ⟨hk.1.2, hk.2⟩)⟩, ⟨by (with_reducible repeat (first | apply Kd.R_alloc | apply Kd.R_drewN | apply Kd.R_drew)); exact Kd.R_mono HO234.out (fun _ hk => ⟨hk.1.2, hk.2⟩)⟩, ⟨by (with_reducible repeat (first | apply Kd.R_alloc | apply Kd.R_drewN | apply Kd.R_drew)); exact Kd.R_mono HO239.out (fun _ hk => ⟨hk.1.2, hk.2⟩)⟩, ⟨by (with_reducible repeat (first | apply Kd.R_alloc | apply Kd.R_drewN | apply Kd.R_drew)); exact Kd.R_mono HO242.out (fun _ hk => ⟨hk.1.2, hk.2⟩)⟩, ⟨by (with_reducible repeat (first | apply Kd.R_alloc | apply Kd.R_drewN | apply Kd.R_drew)); exact Kd.R_mono HO246.out (fun _ hk => ⟨hk.1.2, hk.2⟩)⟩, ⟨by (with_reducible repeat (first | apply Kd.R_alloc | apply Kd.R_drewN | apply Kd.R_drew)); exact Kd.R_mono HO249.out (fun _ hk => ⟨hk.1.2, hk.2⟩)⟩, ⟨by (with_reducible repeat (first | refine blk_drewN ?_ _ | refine blk_drew ?_ | refine blk_alloc ?_ _)); exact BK221.out⟩, ⟨by (with_reducible repeat (first | refine blk_drewN ?_ _ | refine blk_drew ?_ | refine blk_alloc ?_ _)); exact BK236.out⟩, ⟨by (with_reducible repeat (first | refine blk_drewN ?_ _ | refine blk_drew ?_ | refine blk_alloc ?_ _)); exact BK243.out⟩, ⟨by (with_reducible repeat (first | refine blk_drewN ?_ _ | refine blk_drew ?_ | refine blk_alloc ?_ _)); exact BK251.out⟩, ⟨by repeat (first | (with_reducible first | exact HB.out | apply below_alloc | apply pw_below_drewN | apply below_drew1 | refine below_set ?_ GE221.out | refine below_set ?_ GE236.out | refine below_set ?_ GE243.out | refine below_set ?_ GE251.out) | exact HB.out)⟩⟩
      case rest =>
        clear HC15
        try clear c1
        try clear c2
        try clear p2
        try clear c3
        try clear c4
        try clear c4b0
        try clear c4b1
        try clear c5
        try clear c6
        try clear c7
        try clear c7b0
        try clear c14
        try clear c15
        try clear c16
        try clear c17
        try clear c18
        try clear c26
        try clear c33
        try clear c34
        try clear c40
        try clear c41
        try clear c42
        try clear c46
        try clear c47
        try clear c48
        try clear c49
        try clear c51
        try clear c52
        try clear c55
        try clear c56
        try clear c57
        try clear c59
        try clear c60
        try clear hcz17_0
        try clear hcz17_1
        try clear hcz19_0
        try clear hcz19_1
        try clear hcz27_0
        try clear hcz27_1
        try clear hcz29_0
        try clear hcz29_1
        try clear hcz35_0
        try clear hcz35_1
        try clear hcz43_0
        try clear hcz43_1
        try clear hcz50_0
        try clear hcz50_1
        try clear hcz53_0
        try clear hcz53_1
        try clear hcz58_0
        try clear hcz58_1
        try clear hcz61_0
        try clear hcz61_1
        try clear hcz9_0
        try clear hcz9_1
        try clear hfz17_0
        try clear hfz17_1
        try clear hfz19_0
        try clear hfz19_1
        try clear hfz27_0
        try clear hfz27_1
        try clear hfz29_0
        try clear hfz29_1
        try clear hfz35_0
        try clear hfz35_1
        try clear hfz43_0
        try clear hfz43_1
        try clear hfz50_0
        try clear hfz50_1
        try clear hfz53_0
        try clear hfz53_1
        try clear hfz58_0
        try clear hfz58_1
        try clear hfz61_0
        try clear hfz61_1
        try clear hfz9_0
        try clear hfz9_1
        obtain ⟨kq, x51_14, rfl, HA, HJ14, HO_237000, HO_237001, HO_244000, HO_244001, HO_252000, HO_252001, BK221, BK236, BK243, BK251, HB⟩ := hcut
        cases kq with
        | zero => exact absurd HA.out (by simp [laws_FnExactLay.j0])
        | succ kj14 =>
          have H := HA.out
          clear HA
          simp only [laws_FnExactLay.j0] at H
          by_cases c63 : x51_14 = true
          · subst c63
            have H1 : (some false) = some r := by rw [if_pos rfl] at H; exact H
            clear H
            have H := H1
            clear H1
            exact absurd ((Option.some.inj H).trans hT.out) (by decide)
          · replace c63 := Bool.eq_false_iff.mpr c63
            subst c63
            have H1 : ((laws_toDevice.f kj14 l0_0 l0_1).bind fun bt253 => ((laws_eqDevice.f kj14 t237 t240 bt253.1 bt253.2).bind fun t259 => (if t259 = true then ((laws_markDevice.f kj14 t237 t240 1).bind fun bt260 => (if bt260.1 < 0 then (laws_FnExactLay.j1 kj14 a1 a2 t235 true l0_0 l0_1 t229 t232 t244 t247) else ((laws_eqDevice.f kj14 t244 t247 t229 t232).bind fun t263 => (if t263 = true then (laws_FnExactLay.j1 kj14 a1 a2 t235 (t250 != t235) l0_0 l0_1 t229 t232 t244 t247) else (laws_FnExactLay.j1 kj14 a1 a2 t235 true l0_0 l0_1 t229 t232 t244 t247))))) else (some false)))) = some r := by rw [if_neg (show ¬ (false = true) by decide)] at H; exact H
            clear H
            have H := H1
            clear H1
            replace H := Option.bind_eq_some_iff.mp H
            obtain ⟨⟨t253, t256⟩, A640, H⟩ := H
            replace H : ((laws_eqDevice.f kj14 t237 t240 t253 t256).bind fun t259 => (if t259 = true then ((laws_markDevice.f kj14 t237 t240 1).bind fun bt260 => (if bt260.1 < 0 then (laws_FnExactLay.j1 kj14 a1 a2 t235 true l0_0 l0_1 t229 t232 t244 t247) else ((laws_eqDevice.f kj14 t244 t247 t229 t232).bind fun t263 => (if t263 = true then (laws_FnExactLay.j1 kj14 a1 a2 t235 (t250 != t235) l0_0 l0_1 t229 t232 t244 t247) else (laws_FnExactLay.j1 kj14 a1 a2 t235 true l0_0 l0_1 t229 t232 t244 t247))))) else (some false))) = some r := H
            have A64 := Aside0.mk A640
            clear A640
            replace H := Option.bind_eq_some_iff.mp H
            obtain ⟨t259, A650, H⟩ := H
            replace H : (if t259 = true then ((laws_markDevice.f kj14 t237 t240 1).bind fun bt260 => (if bt260.1 < 0 then (laws_FnExactLay.j1 kj14 a1 a2 t235 true l0_0 l0_1 t229 t232 t244 t247) else ((laws_eqDevice.f kj14 t244 t247 t229 t232).bind fun t263 => (if t263 = true then (laws_FnExactLay.j1 kj14 a1 a2 t235 (t250 != t235) l0_0 l0_1 t229 t232 t244 t247) else (laws_FnExactLay.j1 kj14 a1 a2 t235 true l0_0 l0_1 t229 t232 t244 t247))))) else (some false)) = some r := H
            have A65 := Aside0.mk A650
            clear A650
            by_cases c66 : t259 = true
            · subst c66
              have H1 : ((laws_markDevice.f kj14 t237 t240 1).bind fun bt260 => (if bt260.1 < 0 then (laws_FnExactLay.j1 kj14 a1 a2 t235 true l0_0 l0_1 t229 t232 t244 t247) else ((laws_eqDevice.f kj14 t244 t247 t229 t232).bind fun t263 => (if t263 = true then (laws_FnExactLay.j1 kj14 a1 a2 t235 (t250 != t235) l0_0 l0_1 t229 t232 t244 t247) else (laws_FnExactLay.j1 kj14 a1 a2 t235 true l0_0 l0_1 t229 t232 t244 t247))))) = some r := by rw [if_pos rfl] at H; exact H
              clear H
              have H := H1
              clear H1
              replace H := Option.bind_eq_some_iff.mp H
              obtain ⟨⟨t260, t261, t262⟩, A670, H⟩ := H
              replace H : (if t260 < 0 then (laws_FnExactLay.j1 kj14 a1 a2 t235 true l0_0 l0_1 t229 t232 t244 t247) else ((laws_eqDevice.f kj14 t244 t247 t229 t232).bind fun t263 => (if t263 = true then (laws_FnExactLay.j1 kj14 a1 a2 t235 (t250 != t235) l0_0 l0_1 t229 t232 t244 t247) else (laws_FnExactLay.j1 kj14 a1 a2 t235 true l0_0 l0_1 t229 t232 t244 t247)))) = some r := H
              have A67 := Aside0.mk A670
              clear A670
              have HC68 := Aside0.mk H
              clear H
              try go_wp2
              have n0_ := Aside0.mk (Kd.R_drew HO_237000.out)
              have n1_ := Aside0.mk (Kd.R_drew HO_237001.out)
              have n2_ := Aside0.mk (Kd.R_drew HO_244000.out)
              have n3_ := Aside0.mk (Kd.R_drew HO_244001.out)
              have n4_ := Aside0.mk (Kd.R_drew HO_252000.out)
              have n5_ := Aside0.mk (Kd.R_drew HO_252001.out)
              have n6_ := Aside0.mk (blk_drew BK221.out)
              have n7_ := Aside0.mk (blk_drew BK236.out)
              have n8_ := Aside0.mk (blk_drew BK243.out)
              have n9_ := Aside0.mk (blk_drew BK251.out)
              have n10_ := Aside0.mk (below_drew1 HB.out)
              clear HO_237000
              clear HO_237001
              clear HO_244000
              clear HO_244001
              clear HO_252000
              clear HO_252001
              clear BK221
              clear BK236
              clear BK243
              clear BK251
              clear HB
              have HO_237000 := n0_
              have HO_237001 := n1_
              have HO_244000 := n2_
              have HO_244001 := n3_
              have HO_252000 := n4_
              have HO_252001 := n5_
              have BK221 := n6_
              have BK236 := n7_
              have BK243 := n8_
              have BK251 := n9_
              have HB := n10_
              clear n0_ n1_ n2_ n3_ n4_ n5_ n6_ n7_ n8_ n9_ n10_
              refine start_ (n := 5) (S := fun w' => w'.cell? ⟨gb243, 0, none⟩ = some (.slice Ao32 t237.length co32) ∧ w'.cell? ⟨gb243, 1, none⟩ = some (.slice Ao36 t240.length co36) ∧ w'.cell? ⟨gb221, 0, none⟩ = some (.slice A0_0 l0_0.length c0_0) ∧ w'.cell? ⟨gb221, 1, none⟩ = some (.slice A0_1 l0_1.length c0_1)) (ds := []) #[false, false, false, false, false] (by kernel_rfl) rfl rfl ⟨(blk_cell BK243.out 0).trans rfl, (blk_cell BK243.out 1).trans rfl, (blk_cell BK221.out 0).trans rfl, (blk_cell BK221.out 1).trans rfl⟩ (fun hHeld => ?_)
              generalize wc.drew = w69 at HO_237000 HO_237001 HO_244000 HO_244001 HO_252000 HO_252001 BK221 BK236 BK243 BK251 HB hHeld ⊢
              refine take_ (i := 0) (N := some 52) (v := ?_) (a' := ?_) #[true, false, false, false, false] rfl rfl (by kernel_rfl) (fun _ _ _ h => h) (Or.inl ⟨by rfl, ?_⟩) hHeld ?_ ?_
              rotate_left
              · rintro w' ⟨s0, s1, s2, s3⟩
                go_simp
                with_reducible rfl
              rotate_left
              · simp only [Act.put, List.setIfInBounds_toArray, List.set_cons_zero, List.set_cons_succ, i64_w, i32_w]
                rfl
              refine take_ (i := 1) (N := some 53) (v := ?_) (a' := ?_) #[true, true, false, false, false] rfl rfl (by kernel_rfl) (fun _ _ _ h => h) (Or.inl ⟨by rfl, ?_⟩) hHeld ?_ ?_
              rotate_left
              · rintro w' ⟨s0, s1, s2, s3⟩
                go_simp
                with_reducible rfl
              rotate_left
              · simp only [Act.put, List.setIfInBounds_toArray, List.set_cons_zero, List.set_cons_succ, i64_w, i32_w]
                rfl
              refine one_ (i := 2) (N := some 54) #[true, true, true, false, false] rfl rfl (by kernel_rfl) (by decide) (fun K hK => ?_)
              refine goes_ Try.func16 (by kernel_rfl) rfl #[.agg #[.slice A0_0 l0_0.length c0_0, .slice A0_1 l0_1.length c0_1]] (by rfl) rfl rfl (by (try simp only [List.map_toArray, List.map_cons, List.map_nil]); first | done | rfl | (simp only [List.length_drop, List.length_take]; rfl)) ?_
              with_reducible refine (laws_toDevice.calls kj14 _ _ l0_0 _ _ l0_1 t253 t256 _ ?side1 ?side2 ?side3 ?side4 A64.out).mono ?_
              (case side1 => repeat (first | exact (Kd.C_below HR0_0.out HB.out) | (with_reducible refine Kd.C_alloc ?_ _) | (with_reducible refine Kd.C_drewN ?_ _) | (with_reducible refine Kd.C_drew ?_)))
              (case side2 => exact HC0_0.out)
              (case side3 => repeat (first | exact (Kd.C_below HR0_1.out HB.out) | (with_reducible refine Kd.C_alloc ?_ _) | (with_reducible refine Kd.C_drewN ?_ _) | (with_reducible refine Kd.C_drew ?_)))
              (case side4 => exact HC0_1.out)
              rintro e w70 ⟨v254, v257, rfl, ho0, ho1, hb⟩
              refine ⟨_, rfl, ?_⟩
              have n0_ := Aside0.mk (Kd.R_elder' (by (with_reducible repeat (first | apply Kd.R_alloc | apply Kd.R_drewN | apply Kd.R_drew)); exact HO_237000.out) (Kd.R_base ho0) hb)
              have n1_ := Aside0.mk (Kd.R_elder' (by (with_reducible repeat (first | apply Kd.R_alloc | apply Kd.R_drewN | apply Kd.R_drew)); exact HO_237001.out) (Kd.R_base ho1) hb)
              have n2_ := Aside0.mk (Kd.R_elder' (by (with_reducible repeat (first | apply Kd.R_alloc | apply Kd.R_drewN | apply Kd.R_drew)); exact HO_244000.out) (Kd.R_base ho0) hb)
              have n3_ := Aside0.mk (Kd.R_elder' (by (with_reducible repeat (first | apply Kd.R_alloc | apply Kd.R_drewN | apply Kd.R_drew)); exact HO_244001.out) (Kd.R_base ho1) hb)
              have n4_ := Aside0.mk (Kd.R_elder' (by (with_reducible repeat (first | apply Kd.R_alloc | apply Kd.R_drewN | apply Kd.R_drew)); exact HO_252000.out) (Kd.R_base ho0) hb)
              have n5_ := Aside0.mk (Kd.R_elder' (by (with_reducible repeat (first | apply Kd.R_alloc | apply Kd.R_drewN | apply Kd.R_drew)); exact HO_252001.out) (Kd.R_base ho1) hb)
              have n6_ := Aside0.mk (Kd.R_lower (Kd.R_new' (Kd.R_new' (Kd.R_new' ho0 (Kd.R_lt (by (with_reducible repeat (first | apply Kd.R_alloc | apply Kd.R_drewN | apply Kd.R_drew)); exact HO_237000.out))) (Kd.R_lt (by (with_reducible repeat (first | apply Kd.R_alloc | apply Kd.R_drewN | apply Kd.R_drew)); exact HO_244000.out))) (Kd.R_lt (by (with_reducible repeat (first | apply Kd.R_alloc | apply Kd.R_drewN | apply Kd.R_drew)); exact HO_252000.out))) (below_size (by repeat (first | (with_reducible first | exact HB.out | apply below_alloc | apply pw_below_drewN | apply below_drew1 | refine below_set ?_ GE221.out | refine below_set ?_ GE236.out | refine below_set ?_ GE243.out | refine below_set ?_ GE251.out) | exact HB.out))))
              have n7_ := Aside0.mk (Kd.R_lower (Kd.R_new' (Kd.R_new' (Kd.R_new' ho1 (Kd.R_lt (by (with_reducible repeat (first | apply Kd.R_alloc | apply Kd.R_drewN | apply Kd.R_drew)); exact HO_237001.out))) (Kd.R_lt (by (with_reducible repeat (first | apply Kd.R_alloc | apply Kd.R_drewN | apply Kd.R_drew)); exact HO_244001.out))) (Kd.R_lt (by (with_reducible repeat (first | apply Kd.R_alloc | apply Kd.R_drewN | apply Kd.R_drew)); exact HO_252001.out))) (below_size (by repeat (first | (with_reducible first | exact HB.out | apply below_alloc | apply pw_below_drewN | apply below_drew1 | refine below_set ?_ GE221.out | refine below_set ?_ GE236.out | refine below_set ?_ GE243.out | refine below_set ?_ GE251.out) | exact HB.out))))
              have n8_ := Aside0.mk (blk_below (g := gb221) (o := .cells #[.slice A0_0 l0_0.length c0_0, .slice A0_1 l0_1.length c0_1] 40 (0, 0)) (by (with_reducible repeat (first | refine blk_drewN ?_ _ | refine blk_drew ?_ | refine blk_alloc ?_ _)); exact BK221.out) hb)
              have n9_ := Aside0.mk (blk_below (g := gb236) (o := .cells #[.slice Ao25 t229.length co25, .slice Ao28 t232.length co28] 44 (0, 0)) (by (with_reducible repeat (first | refine blk_drewN ?_ _ | refine blk_drew ?_ | refine blk_alloc ?_ _)); exact BK236.out) hb)
              have n10_ := Aside0.mk (blk_below (g := gb243) (o := .cells #[.slice Ao32 t237.length co32, .slice Ao36 t240.length co36] 44 (0, 0)) (by (with_reducible repeat (first | refine blk_drewN ?_ _ | refine blk_drew ?_ | refine blk_alloc ?_ _)); exact BK243.out) hb)
              have n11_ := Aside0.mk (blk_below (g := gb251) (o := .cells #[.slice Ao39 t244.length co39, .slice Ao44 t247.length co44] 44 (0, 0)) (by (with_reducible repeat (first | refine blk_drewN ?_ _ | refine blk_drew ?_ | refine blk_alloc ?_ _)); exact BK251.out) hb)
              have n12_ := Aside0.mk (below_step (by repeat (first | (with_reducible first | exact HB.out | apply below_alloc | apply pw_below_drewN | apply below_drew1 | refine below_set ?_ GE221.out | refine below_set ?_ GE236.out | refine below_set ?_ GE243.out | refine below_set ?_ GE251.out) | exact HB.out)) hb)
              clear HO_237000
              clear HO_237001
              clear HO_244000
              clear HO_244001
              clear HO_252000
              clear HO_252001
              clear BK221
              clear BK236
              clear BK243
              clear BK251
              clear HB
              have HO_237000 := n0_
              have HO_237001 := n1_
              have HO_244000 := n2_
              have HO_244001 := n3_
              have HO_252000 := n4_
              have HO_252001 := n5_
              have HO255 := n6_
              have HO258 := n7_
              have BK221 := n8_
              have BK236 := n9_
              have BK243 := n10_
              have BK251 := n11_
              have HB := n12_
              clear n0_ n1_ n2_ n3_ n4_ n5_ n6_ n7_ n8_ n9_ n10_ n11_ n12_
              (try clear hb)
              (try clear hb2)
              (try clear hk)
              (try clear hi)
              (try clear ho0)
              (try clear ho1)
              obtain ⟨Ao71, co71, eo71⟩ := Kd.R_slice HO255.out
              (first | subst eo71 | (injection eo71 with f1_ f2_ f3_; have f4_ := f1_.symm; have f5_ := f3_.symm; clear f1_ f2_ f3_; subst f4_; subst f5_))
              obtain ⟨Ao72, co72, eo72⟩ := Kd.R_slice HO258.out
              (first | subst eo72 | (injection eo72 with f1_ f2_ f3_; have f4_ := f1_.symm; have f5_ := f3_.symm; clear f1_ f2_ f3_; subst f4_; subst f5_))
              refine hK.out _ _ ⟨(blk_cell BK243.out 0).trans rfl, (blk_cell BK243.out 1).trans rfl, (blk_cell BK221.out 0).trans rfl, (blk_cell BK221.out 1).trans rfl⟩ (fun hHeld => ?_)
              clear hK K
              refine norm_ (a' := ?_) ?_ ?_
              rotate_left
              · show Act.put _ (some 54) _ = _
                simp only [Act.put, List.setIfInBounds_toArray, List.set_cons_zero, List.set_cons_succ, i64_w, i32_w]
                rfl
              refine one_ (i := 3) (N := some 55) #[true, true, true, true, false] rfl rfl (by kernel_rfl) (by decide) (fun K hK => ?_)
              refine goes_ Try.func18 (by kernel_rfl) rfl #[.agg #[.slice Ao32 t237.length co32, .slice Ao36 t240.length co36], .agg #[.slice Ao71 t253.length co71, .slice Ao72 t256.length co72]] (by rfl) rfl rfl (by (try simp only [List.map_toArray, List.map_cons, List.map_nil]); first | done | rfl | (simp only [List.length_drop, List.length_take]; rfl)) ?_
              with_reducible refine (laws_eqDevice.calls kj14 _ _ t237 _ _ t240 _ _ t253 _ _ t256 true _ ?side1 ?side2 ?side3 ?side4 ?side5 ?side6 ?side7 ?side8 A65.out).mono ?_
              (case side1 => repeat (first | exact (Kd.R_reads' HO_244000.out).2.2 | (with_reducible refine Kd.C_alloc ?_ _) | (with_reducible refine Kd.C_drewN ?_ _) | (with_reducible refine Kd.C_drew ?_)))
              (case side2 => exact (Kd.R_reads' HO_244000.out).2.1)
              (case side3 => repeat (first | exact (Kd.R_reads' HO_244001.out).2.2 | (with_reducible refine Kd.C_alloc ?_ _) | (with_reducible refine Kd.C_drewN ?_ _) | (with_reducible refine Kd.C_drew ?_)))
              (case side4 => exact (Kd.R_reads' HO_244001.out).2.1)
              (case side5 => repeat (first | exact (Kd.R_reads' HO255.out).2.2 | (with_reducible refine Kd.C_alloc ?_ _) | (with_reducible refine Kd.C_drewN ?_ _) | (with_reducible refine Kd.C_drew ?_)))
              (case side6 => exact (Kd.R_reads' HO255.out).2.1)
              (case side7 => repeat (first | exact (Kd.R_reads' HO258.out).2.2 | (with_reducible refine Kd.C_alloc ?_ _) | (with_reducible refine Kd.C_drewN ?_ _) | (with_reducible refine Kd.C_drew ?_)))
              (case side8 => exact (Kd.R_reads' HO258.out).2.1)
              rintro e w73 ⟨rfl, hb⟩
              refine ⟨_, rfl, ?_⟩
              have n0_ := Aside0.mk (Kd.R_below (by (with_reducible repeat (first | apply Kd.R_alloc | apply Kd.R_drewN | apply Kd.R_drew)); exact HO_237000.out) hb)
              have n1_ := Aside0.mk (Kd.R_below (by (with_reducible repeat (first | apply Kd.R_alloc | apply Kd.R_drewN | apply Kd.R_drew)); exact HO_237001.out) hb)
              have n2_ := Aside0.mk (Kd.R_below (by (with_reducible repeat (first | apply Kd.R_alloc | apply Kd.R_drewN | apply Kd.R_drew)); exact HO_244000.out) hb)
              have n3_ := Aside0.mk (Kd.R_below (by (with_reducible repeat (first | apply Kd.R_alloc | apply Kd.R_drewN | apply Kd.R_drew)); exact HO_244001.out) hb)
              have n4_ := Aside0.mk (Kd.R_below (by (with_reducible repeat (first | apply Kd.R_alloc | apply Kd.R_drewN | apply Kd.R_drew)); exact HO_252000.out) hb)
              have n5_ := Aside0.mk (Kd.R_below (by (with_reducible repeat (first | apply Kd.R_alloc | apply Kd.R_drewN | apply Kd.R_drew)); exact HO_252001.out) hb)
              have n6_ := Aside0.mk (Kd.R_below (by (with_reducible repeat (first | apply Kd.R_alloc | apply Kd.R_drewN | apply Kd.R_drew)); exact HO255.out) hb)
              have n7_ := Aside0.mk (Kd.R_below (by (with_reducible repeat (first | apply Kd.R_alloc | apply Kd.R_drewN | apply Kd.R_drew)); exact HO258.out) hb)
              have n8_ := Aside0.mk (blk_below (g := gb221) (o := .cells #[.slice A0_0 l0_0.length c0_0, .slice A0_1 l0_1.length c0_1] 40 (0, 0)) (by (with_reducible repeat (first | refine blk_drewN ?_ _ | refine blk_drew ?_ | refine blk_alloc ?_ _)); exact BK221.out) hb)
              have n9_ := Aside0.mk (blk_below (g := gb236) (o := .cells #[.slice Ao25 t229.length co25, .slice Ao28 t232.length co28] 44 (0, 0)) (by (with_reducible repeat (first | refine blk_drewN ?_ _ | refine blk_drew ?_ | refine blk_alloc ?_ _)); exact BK236.out) hb)
              have n10_ := Aside0.mk (blk_below (g := gb243) (o := .cells #[.slice Ao32 t237.length co32, .slice Ao36 t240.length co36] 44 (0, 0)) (by (with_reducible repeat (first | refine blk_drewN ?_ _ | refine blk_drew ?_ | refine blk_alloc ?_ _)); exact BK243.out) hb)
              have n11_ := Aside0.mk (blk_below (g := gb251) (o := .cells #[.slice Ao39 t244.length co39, .slice Ao44 t247.length co44] 44 (0, 0)) (by (with_reducible repeat (first | refine blk_drewN ?_ _ | refine blk_drew ?_ | refine blk_alloc ?_ _)); exact BK251.out) hb)
              have n12_ := Aside0.mk (below_step (by repeat (first | (with_reducible first | exact HB.out | apply below_alloc | apply pw_below_drewN | apply below_drew1 | refine below_set ?_ GE221.out | refine below_set ?_ GE236.out | refine below_set ?_ GE243.out | refine below_set ?_ GE251.out) | exact HB.out)) hb)
              clear HO_237000
              clear HO_237001
              clear HO_244000
              clear HO_244001
              clear HO_252000
              clear HO_252001
              clear HO255
              clear HO258
              clear BK221
              clear BK236
              clear BK243
              clear BK251
              clear HB
              have HO_237000 := n0_
              have HO_237001 := n1_
              have HO_244000 := n2_
              have HO_244001 := n3_
              have HO_252000 := n4_
              have HO_252001 := n5_
              have HO255 := n6_
              have HO258 := n7_
              have BK221 := n8_
              have BK236 := n9_
              have BK243 := n10_
              have BK251 := n11_
              have HB := n12_
              clear n0_ n1_ n2_ n3_ n4_ n5_ n6_ n7_ n8_ n9_ n10_ n11_ n12_
              (try clear hb)
              (try clear hb2)
              (try clear hk)
              (try clear hi)
              refine hK.out _ _ ⟨(blk_cell BK243.out 0).trans rfl, (blk_cell BK243.out 1).trans rfl, (blk_cell BK221.out 0).trans rfl, (blk_cell BK221.out 1).trans rfl⟩ (fun hHeld => ?_)
              clear hK K
              refine norm_ (a' := ?_) ?_ ?_
              rotate_left
              · show Act.put _ (some 55) _ = _
                simp only [Act.put, List.setIfInBounds_toArray, List.set_cons_zero, List.set_cons_succ, i64_w, i32_w]
                rfl
              refine pure_ (i := 4) (N := some 56) (v := ?_) (a' := ?_) #[true, true, true, true, true] rfl rfl (by kernel_rfl) (fun _ _ _ h => h) (Or.inl ⟨by rfl, ?_⟩) ?_ ?_
              rotate_left
              · intro w'
                go_simp
                with_reducible rfl
              rotate_left
              · simp only [Act.put, List.setIfInBounds_toArray, List.set_cons_zero, List.set_cons_succ, i64_w, i32_w]
                rfl
              refine done_ (by kernel_rfl) ?_
              have hnb74 := NB243_221.out
              have hnc74 := NB221_243.out
              have hnb75 := NB243_236.out
              have hnc75 := NB236_243.out
              have hnb76 := NB243_251.out
              have hnc76 := NB251_243.out
              have hcz77_0 : w73.cell? ⟨gb243, 0, none⟩ = some (.slice Ao32 t237.length co32) := (blk_cell BK243.out 0).trans rfl
              have hcz77_1 : w73.cell? ⟨gb243, 1, none⟩ = some (.slice Ao36 t240.length co36) := (blk_cell BK243.out 1).trans rfl
              have hfz77_0 := blk_frozen BK243.out 0
              have hfz77_1 := blk_frozen BK243.out 1
              go_upto_region 16 with (first | ((with_reducible refine gate_callee (f := 19) rfl ?_); refine goesL_ (some 59) rfl rfl Try.func19 (by kernel_rfl) rfl #[.agg #[.slice Ao32 t237.length co32, .slice Ao36 t240.length co36], .int .i64 1] rfl (by (try simp only [List.map_toArray, List.map_cons, List.map_nil]); first | done | rfl | (simp only [List.length_drop, List.length_take]; rfl)) ?_; (with_reducible refine (laws_markDevice.calls kj14 (fun k_ => some k_ = (.slice Ao32 t237.length co32 : Value).ownBlock) (.slice Ao32 t237.length co32) t237 (fun k_ => some k_ = (.slice Ao36 t240.length co36 : Value).ownBlock) (.slice Ao36 t240.length co36) t240 1 t260 t261 t262 w _ ?side1 ?side2 ?side3 A67.out).mono ?_); (case side1 => repeat (first | (with_reducible first | exact HB.out | apply below_alloc | apply pw_below_drewN | apply below_drew1 | refine below_set ?_ GE221.out | refine below_set ?_ GE236.out | refine below_set ?_ GE243.out | refine below_set ?_ GE251.out) | exact HB.out)); (case side2 => exact Kd.R_tight rfl HO_244000.out); (case side3 => exact Kd.R_tight rfl HO_244001.out); rintro e w78 ⟨rfl, hy0, hy1, hb, hkp⟩; refine ⟨_, rfl, ?_⟩; have n0_ := Aside0.mk (Kd.R_mono (ok' := fun k_ => some k_ ≠ (.slice Ao32 t237.length co32 : Value).ownBlock ∧ some k_ ≠ (.slice Ao39 t244.length co39 : Value).ownBlock ∧ some k_ ≠ (.slice Ao71 t253.length co71 : Value).ownBlock) (Kd.R_keptB ((Kd.R_apart' HO_237000.out (Kd.R_typed HO_244001.out) (by decide))) hkp (fun k_ hk_ hs_ => Or.elim hs_ (fun e_ => (hk_.1.1.1) e_) (fun e_ => (hk_.2) e_))) (fun k_ hk_ => ⟨hk_.1.1.1.1, hk_.1.1.1.2, hk_.1.1.2⟩)); have n1_ := Aside0.mk (Kd.R_mono (ok' := fun k_ => some k_ ≠ (.slice Ao36 t240.length co36 : Value).ownBlock ∧ some k_ ≠ (.slice Ao44 t247.length co44 : Value).ownBlock ∧ some k_ ≠ (.slice Ao72 t256.length co72 : Value).ownBlock) (Kd.R_keptB ((Kd.R_apart' HO_237001.out (Kd.R_typed HO_244000.out) (by decide))) hkp (fun k_ hk_ hs_ => Or.elim hs_ (fun e_ => (hk_.2) e_) (fun e_ => (hk_.1.1.1) e_))) (fun k_ hk_ => ⟨hk_.1.1.1.1, hk_.1.1.1.2, hk_.1.1.2⟩)); have n2_ := Aside0.mk (Kd.R_reok rfl hy0 (fun k_ e_ => HO_244000.out.1 k_ e_)); have n3_ := Aside0.mk (Kd.R_reok rfl hy1 (fun k_ e_ => HO_244001.out.1 k_ e_)); have n4_ := Aside0.mk (Kd.R_mono (ok' := fun k_ => some k_ ≠ (.slice Ao25 t229.length co25 : Value).ownBlock ∧ some k_ ≠ (.slice Ao32 t237.length co32 : Value).ownBlock ∧ some k_ ≠ (.slice Ao71 t253.length co71 : Value).ownBlock) (Kd.R_keptB ((Kd.R_apart' HO_252000.out (Kd.R_typed HO_244001.out) (by decide))) hkp (fun k_ hk_ hs_ => Or.elim hs_ (fun e_ => (hk_.1.1.2) e_) (fun e_ => (hk_.2) e_))) (fun k_ hk_ => ⟨hk_.1.1.1.1, hk_.1.1.1.2, hk_.1.1.2⟩)); have n5_ := Aside0.mk (Kd.R_mono (ok' := fun k_ => some k_ ≠ (.slice Ao28 t232.length co28 : Value).ownBlock ∧ some k_ ≠ (.slice Ao36 t240.length co36 : Value).ownBlock ∧ some k_ ≠ (.slice Ao72 t256.length co72 : Value).ownBlock) (Kd.R_keptB ((Kd.R_apart' HO_252001.out (Kd.R_typed HO_244000.out) (by decide))) hkp (fun k_ hk_ hs_ => Or.elim hs_ (fun e_ => (hk_.2) e_) (fun e_ => (hk_.1.1.2) e_))) (fun k_ hk_ => ⟨hk_.1.1.1.1, hk_.1.1.1.2, hk_.1.1.2⟩)); have n6_ := Aside0.mk (blk_kept (by (with_reducible repeat (first | refine blk_drewN ?_ _ | refine blk_drew ?_ | refine blk_alloc ?_ _)); exact BK221.out) hkp (fun hs_ => Or.elim hs_ (fun e_ => (fun e_ => (Kd.R_ne HO_244000.out BK221.out (by decide)) e_) e_) (fun e_ => (fun e_ => (Kd.R_ne HO_244001.out BK221.out (by decide)) e_) e_))); have n7_ := Aside0.mk (blk_kept (by (with_reducible repeat (first | refine blk_drewN ?_ _ | refine blk_drew ?_ | refine blk_alloc ?_ _)); exact BK236.out) hkp (fun hs_ => Or.elim hs_ (fun e_ => (fun e_ => (Kd.R_ne HO_244000.out BK236.out (by decide)) e_) e_) (fun e_ => (fun e_ => (Kd.R_ne HO_244001.out BK236.out (by decide)) e_) e_))); have n8_ := Aside0.mk (blk_kept (by (with_reducible repeat (first | refine blk_drewN ?_ _ | refine blk_drew ?_ | refine blk_alloc ?_ _)); exact BK243.out) hkp (fun hs_ => Or.elim hs_ (fun e_ => (fun e_ => (Kd.R_ne HO_244000.out BK243.out (by decide)) e_) e_) (fun e_ => (fun e_ => (Kd.R_ne HO_244001.out BK243.out (by decide)) e_) e_))); have n9_ := Aside0.mk (blk_kept (by (with_reducible repeat (first | refine blk_drewN ?_ _ | refine blk_drew ?_ | refine blk_alloc ?_ _)); exact BK251.out) hkp (fun hs_ => Or.elim hs_ (fun e_ => (fun e_ => (Kd.R_ne HO_244000.out BK251.out (by decide)) e_) e_) (fun e_ => (fun e_ => (Kd.R_ne HO_244001.out BK251.out (by decide)) e_) e_))); have n10_ := Aside0.mk (Kd.R_mono (ok' := fun k_ => some k_ ≠ (.slice Ao25 t229.length co25 : Value).ownBlock ∧ some k_ ≠ (.slice Ao32 t237.length co32 : Value).ownBlock ∧ some k_ ≠ (.slice Ao39 t244.length co39 : Value).ownBlock) (Kd.R_keptB ((Kd.R_apart' HO255.out (Kd.R_typed HO_244001.out) (by decide))) hkp (fun k_ hk_ hs_ => Or.elim hs_ (fun e_ => (hk_.1.1.2) e_) (fun e_ => (hk_.2) e_))) (fun k_ hk_ => ⟨hk_.1.1.1.1.2, hk_.1.1.1.2, hk_.1.1.2⟩)); have n11_ := Aside0.mk (Kd.R_mono (ok' := fun k_ => some k_ ≠ (.slice Ao28 t232.length co28 : Value).ownBlock ∧ some k_ ≠ (.slice Ao36 t240.length co36 : Value).ownBlock ∧ some k_ ≠ (.slice Ao44 t247.length co44 : Value).ownBlock) (Kd.R_keptB ((Kd.R_apart' HO258.out (Kd.R_typed HO_244000.out) (by decide))) hkp (fun k_ hk_ hs_ => Or.elim hs_ (fun e_ => (hk_.2) e_) (fun e_ => (hk_.1.1.2) e_))) (fun k_ hk_ => ⟨hk_.1.1.1.1.2, hk_.1.1.1.2, hk_.1.1.2⟩)); have n12_ := Aside0.mk (hb); clear HO_237000; clear HO_237001; clear HO_244000; clear HO_244001; clear HO_252000; clear HO_252001; clear BK221; clear BK236; clear BK243; clear BK251; clear HO255; clear HO258; clear HB; have HO_237000 := n0_; have HO_237001 := n1_; have HO_244000 := n2_; have HO_244001 := n3_; have HO_252000 := n4_; have HO_252001 := n5_; have BK221 := n6_; have BK236 := n7_; have BK243 := n8_; have BK251 := n9_; have HO255 := n10_; have HO258 := n11_; have HB := n12_; clear n0_ n1_ n2_ n3_ n4_ n5_ n6_ n7_ n8_ n9_ n10_ n11_ n12_; (try clear hb); (try clear hkp); (try clear hy0); (try clear hy1)))
              (try simp only [Act.put, List.setIfInBounds_toArray, List.set_cons_zero, List.set_cons_succ])
              go_cut [72] (fun v72 wc => ∃ (kq : Nat) (x72_67 : Bool), v72 = .bool x72_67 ∧ Aside0 (laws_FnExactLay.j1 kq a1 a2 t235 x72_67 l0_0 l0_1 t229 t232 t244 t247 = some r) ∧ Aside0 (kq ≤ kj14) ∧ Aside0 (Kd.R Kd.string 9 wc w.heap.size (fun k_ => some k_ ≠ ((.slice Ao32 t237.length co32) : Value).ownBlock ∧ some k_ ≠ ((.slice Ao39 t244.length co39) : Value).ownBlock) (.slice Ao25 t229.length co25) t229) ∧ Aside0 (Kd.R k65 65 wc w.heap.size (fun k_ => some k_ ≠ ((.slice Ao36 t240.length co36) : Value).ownBlock ∧ some k_ ≠ ((.slice Ao44 t247.length co44) : Value).ownBlock) (.slice Ao28 t232.length co28) t232) ∧ Aside0 (Kd.R Kd.string 9 wc w.heap.size (fun k_ => some k_ ≠ ((.slice Ao25 t229.length co25) : Value).ownBlock ∧ some k_ ≠ ((.slice Ao39 t244.length co39) : Value).ownBlock) (.slice Ao32 t237.length co32) t261) ∧ Aside0 (Kd.R k65 65 wc w.heap.size (fun k_ => some k_ ≠ ((.slice Ao28 t232.length co28) : Value).ownBlock ∧ some k_ ≠ ((.slice Ao44 t247.length co44) : Value).ownBlock) (.slice Ao36 t240.length co36) t262) ∧ Aside0 (Kd.R Kd.string 9 wc w.heap.size (fun k_ => some k_ ≠ ((.slice Ao25 t229.length co25) : Value).ownBlock ∧ some k_ ≠ ((.slice Ao32 t237.length co32) : Value).ownBlock) (.slice Ao39 t244.length co39) t244) ∧ Aside0 (Kd.R k65 65 wc w.heap.size (fun k_ => some k_ ≠ ((.slice Ao28 t232.length co28) : Value).ownBlock ∧ some k_ ≠ ((.slice Ao36 t240.length co36) : Value).ownBlock) (.slice Ao44 t247.length co44) t247) ∧ Aside0 (wc.heap[gb221]? = some (.cells #[(.slice A0_0 l0_0.length c0_0), (.slice A0_1 l0_1.length c0_1)] 40 (0, 0))) ∧ Aside0 (wc.heap[gb236]? = some (.cells #[(.slice Ao25 t229.length co25), (.slice Ao28 t232.length co28)] 44 (0, 0))) ∧ Aside0 (wc.heap[gb243]? = some (.cells #[(.slice Ao32 t237.length co32), (.slice Ao36 t240.length co36)] 44 (0, 0))) ∧ Aside0 (wc.heap[gb251]? = some (.cells #[(.slice Ao39 t244.length co39), (.slice Ao44 t247.length co44)] 44 (0, 0))) ∧ Aside0 (Below w.heap.size w wc))
              case first =>
                have H := HC68.out
                clear HC68
                by_cases c79 : t260 < 0
                · rw [if_pos c79] at H
                  have c79b0 : decide (t260 < 0) = true := decide_eq_true c79
                  clear c79
                  (first | rw [c79b0] | (simp only [i64_w, i32_w]; rw [c79b0]) | skip)
                  have H' := Aside0.mk H
                  clear H
                  go_wp2
                  go_meet
                  case rel => exact ⟨_, (true), (by first | rfl | (simp; done) | (simp [*]; done)), H', ⟨by have := HJ14.out; first | omega | exact Nat.le_refl _⟩, ⟨by (with_reducible repeat (first | apply Kd.R_alloc | apply Kd.R_drewN | apply Kd.R_drew)); exact Kd.R_mono HO_237000.out (fun _ hk => ⟨hk.1, hk.2.1⟩)⟩, ⟨by (with_reducible repeat (first | apply Kd.R_alloc | apply Kd.R_drewN | apply Kd.R_drew)); exact Kd.R_mono HO_237001.out (fun _ hk => ⟨hk.1, hk.2.1⟩)⟩, ⟨by (with_reducible repeat (first | apply Kd.R_alloc | apply Kd.R_drewN | apply Kd.R_drew)); exact Kd.R_mono HO_244000.out (fun _ hk => ⟨hk.1.1, hk.1.2⟩)⟩, ⟨by (with_reducible repeat (first | apply Kd.R_alloc | apply Kd.R_drewN | apply Kd.R_drew)); exact Kd.R_mono HO_244001.out (fun _ hk => ⟨hk.1.1, hk.1.2⟩)⟩, ⟨by (with_reducible repeat (first | apply Kd.R_alloc | apply Kd.R_drewN | apply Kd.R_drew)); exact Kd.R_mono HO_252000.out (fun _ hk => ⟨hk.1, hk.2.1⟩)⟩, ⟨by (with_reducible repeat (first | apply Kd.R_alloc | apply Kd.R_drewN | apply Kd.R_drew)); exact Kd.R_mono HO_252001.out (fun _ hk => ⟨hk.1, hk.2.1⟩)⟩, ⟨by (with_reducible repeat (first | refine blk_drewN ?_ _ | refine blk_drew ?_ | refine blk_alloc ?_ _)); exact BK221.out⟩, ⟨by (with_reducible repeat (first | refine blk_drewN ?_ _ | refine blk_drew ?_ | refine blk_alloc ?_ _)); exact BK236.out⟩, ⟨by (with_reducible repeat (first | refine blk_drewN ?_ _ | refine blk_drew ?_ | refine blk_alloc ?_ _)); exact BK243.out⟩, ⟨by (with_reducible repeat (first | refine blk_drewN ?_ _ | refine blk_drew ?_ | refine blk_alloc ?_ _)); exact BK251.out⟩, ⟨by repeat (first | (with_reducible first | exact HB.out | apply below_alloc | apply pw_below_drewN | apply below_drew1 | refine below_set ?_ GE221.out | refine below_set ?_ GE236.out | refine below_set ?_ GE243.out | refine below_set ?_ GE251.out) | exact HB.out)⟩⟩
                · rw [if_neg c79] at H
                  have c79b0 : decide (t260 < 0) = false := decide_eq_false c79
                  clear c79
                  (first | rw [c79b0] | (simp only [i64_w, i32_w]; rw [c79b0]) | skip)
                  replace H := Option.bind_eq_some_iff.mp H
                  obtain ⟨t263, A800, H⟩ := H
                  replace H : (if t263 = true then (laws_FnExactLay.j1 kj14 a1 a2 t235 (t250 != t235) l0_0 l0_1 t229 t232 t244 t247) else (laws_FnExactLay.j1 kj14 a1 a2 t235 true l0_0 l0_1 t229 t232 t244 t247)) = some r := H
                  have A80 := Aside0.mk A800
                  clear A800
                  by_cases c81 : t263 = true
                  · subst c81
                    have H1 : (laws_FnExactLay.j1 kj14 a1 a2 t235 (t250 != t235) l0_0 l0_1 t229 t232 t244 t247) = some r := by rw [if_pos rfl] at H; exact H
                    clear H
                    have H := H1
                    clear H1
                    have H' := Aside0.mk H
                    clear H
                    have hnb82 := NB251_221.out
                    have hnc82 := NB221_251.out
                    have hnb83 := NB251_236.out
                    have hnc83 := NB236_251.out
                    have hnb84 := NB251_243.out
                    have hnc84 := NB243_251.out
                    have hcz85_0 : w78.cell? ⟨gb251, 0, none⟩ = some (.slice Ao39 t244.length co39) := (blk_cell BK251.out 0).trans rfl
                    have hcz85_1 : w78.cell? ⟨gb251, 1, none⟩ = some (.slice Ao44 t247.length co44) := (blk_cell BK251.out 1).trans rfl
                    have hfz85_0 := blk_frozen BK251.out 0
                    have hfz85_1 := blk_frozen BK251.out 1
                    have hnb86 := NB236_221.out
                    have hnc86 := NB221_236.out
                    have hnb87 := NB236_243.out
                    have hnc87 := NB243_236.out
                    have hcz88_0 : w78.cell? ⟨gb236, 0, none⟩ = some (.slice Ao25 t229.length co25) := (blk_cell BK236.out 0).trans rfl
                    have hcz88_1 : w78.cell? ⟨gb236, 1, none⟩ = some (.slice Ao28 t232.length co28) := (blk_cell BK236.out 1).trans rfl
                    have hfz88_0 := blk_frozen BK236.out 0
                    have hfz88_1 := blk_frozen BK236.out 1
                    go_wp2_with (first | (go_at_call 18; (with_reducible refine (laws_eqDevice.calls kj14 _ _ t244 _ _ t247 _ _ t229 _ _ t232 true _ ?side1 ?side2 ?side3 ?side4 ?side5 ?side6 ?side7 ?side8 A80.out).mono ?_); (case side1 => repeat (first | exact (Kd.R_reads' HO_252000.out).2.2 | (with_reducible refine Kd.C_alloc ?_ _) | (with_reducible refine Kd.C_drewN ?_ _) | (with_reducible refine Kd.C_drew ?_))); (case side2 => exact (Kd.R_reads' HO_252000.out).2.1); (case side3 => repeat (first | exact (Kd.R_reads' HO_252001.out).2.2 | (with_reducible refine Kd.C_alloc ?_ _) | (with_reducible refine Kd.C_drewN ?_ _) | (with_reducible refine Kd.C_drew ?_))); (case side4 => exact (Kd.R_reads' HO_252001.out).2.1); (case side5 => repeat (first | exact (Kd.R_reads' HO_237000.out).2.2 | (with_reducible refine Kd.C_alloc ?_ _) | (with_reducible refine Kd.C_drewN ?_ _) | (with_reducible refine Kd.C_drew ?_))); (case side6 => exact (Kd.R_reads' HO_237000.out).2.1); (case side7 => repeat (first | exact (Kd.R_reads' HO_237001.out).2.2 | (with_reducible refine Kd.C_alloc ?_ _) | (with_reducible refine Kd.C_drewN ?_ _) | (with_reducible refine Kd.C_drew ?_))); (case side8 => exact (Kd.R_reads' HO_237001.out).2.1); rintro e w89 ⟨rfl, hb⟩; have n0_ := Aside0.mk (Kd.R_below (by (with_reducible repeat (first | apply Kd.R_alloc | apply Kd.R_drewN | apply Kd.R_drew)); exact HO_237000.out) hb); have n1_ := Aside0.mk (Kd.R_below (by (with_reducible repeat (first | apply Kd.R_alloc | apply Kd.R_drewN | apply Kd.R_drew)); exact HO_237001.out) hb); have n2_ := Aside0.mk (Kd.R_below (by (with_reducible repeat (first | apply Kd.R_alloc | apply Kd.R_drewN | apply Kd.R_drew)); exact HO_244000.out) hb); have n3_ := Aside0.mk (Kd.R_below (by (with_reducible repeat (first | apply Kd.R_alloc | apply Kd.R_drewN | apply Kd.R_drew)); exact HO_244001.out) hb); have n4_ := Aside0.mk (Kd.R_below (by (with_reducible repeat (first | apply Kd.R_alloc | apply Kd.R_drewN | apply Kd.R_drew)); exact HO_252000.out) hb); have n5_ := Aside0.mk (Kd.R_below (by (with_reducible repeat (first | apply Kd.R_alloc | apply Kd.R_drewN | apply Kd.R_drew)); exact HO_252001.out) hb); have n6_ := Aside0.mk (Kd.R_below (by (with_reducible repeat (first | apply Kd.R_alloc | apply Kd.R_drewN | apply Kd.R_drew)); exact HO255.out) hb); have n7_ := Aside0.mk (Kd.R_below (by (with_reducible repeat (first | apply Kd.R_alloc | apply Kd.R_drewN | apply Kd.R_drew)); exact HO258.out) hb); have n8_ := Aside0.mk (blk_below (g := gb221) (o := .cells #[.slice A0_0 l0_0.length c0_0, .slice A0_1 l0_1.length c0_1] 40 (0, 0)) (by (with_reducible repeat (first | refine blk_drewN ?_ _ | refine blk_drew ?_ | refine blk_alloc ?_ _)); exact BK221.out) hb); have n9_ := Aside0.mk (blk_below (g := gb236) (o := .cells #[.slice Ao25 t229.length co25, .slice Ao28 t232.length co28] 44 (0, 0)) (by (with_reducible repeat (first | refine blk_drewN ?_ _ | refine blk_drew ?_ | refine blk_alloc ?_ _)); exact BK236.out) hb); have n10_ := Aside0.mk (blk_below (g := gb243) (o := .cells #[.slice Ao32 t237.length co32, .slice Ao36 t240.length co36] 44 (0, 0)) (by (with_reducible repeat (first | refine blk_drewN ?_ _ | refine blk_drew ?_ | refine blk_alloc ?_ _)); exact BK243.out) hb); have n11_ := Aside0.mk (blk_below (g := gb251) (o := .cells #[.slice Ao39 t244.length co39, .slice Ao44 t247.length co44] 44 (0, 0)) (by (with_reducible repeat (first | refine blk_drewN ?_ _ | refine blk_drew ?_ | refine blk_alloc ?_ _)); exact BK251.out) hb); have n12_ := Aside0.mk (below_step (by repeat (first | (with_reducible first | exact HB.out | apply below_alloc | apply pw_below_drewN | apply below_drew1 | refine below_set ?_ GE221.out | refine below_set ?_ GE236.out | refine below_set ?_ GE243.out | refine below_set ?_ GE251.out) | exact HB.out)) hb); clear HO_237000; clear HO_237001; clear HO_244000; clear HO_244001; clear HO_252000; clear HO_252001; clear HO255; clear HO258; clear BK221; clear BK236; clear BK243; clear BK251; clear HB; have HO_237000 := n0_; have HO_237001 := n1_; have HO_244000 := n2_; have HO_244001 := n3_; have HO_252000 := n4_; have HO_252001 := n5_; have HO255 := n6_; have HO258 := n7_; have BK221 := n8_; have BK236 := n9_; have BK243 := n10_; have BK251 := n11_; have HB := n12_; clear n0_ n1_ n2_ n3_ n4_ n5_ n6_ n7_ n8_ n9_ n10_ n11_ n12_; (try clear hb); (try clear hb2); (try clear hk); (try clear hi)))
                    go_meet
                    case rel => exact ⟨_, ((t250 != t235)), (by first | rfl | (simp; done) | (simp [*]; done)), H', ⟨by have := HJ14.out; first | omega | exact Nat.le_refl _⟩, ⟨by (with_reducible repeat (first | apply Kd.R_alloc | apply Kd.R_drewN | apply Kd.R_drew)); exact Kd.R_mono HO_237000.out (fun _ hk => ⟨hk.1, hk.2.1⟩)⟩, ⟨by (with_reducible repeat (first | apply Kd.R_alloc | apply Kd.R_drewN | apply Kd.R_drew)); exact Kd.R_mono HO_237001.out (fun _ hk => ⟨hk.1, hk.2.1⟩)⟩, ⟨by (with_reducible repeat (first | apply Kd.R_alloc | apply Kd.R_drewN | apply Kd.R_drew)); exact Kd.R_mono HO_244000.out (fun _ hk => ⟨hk.1.1, hk.1.2⟩)⟩, ⟨by (with_reducible repeat (first | apply Kd.R_alloc | apply Kd.R_drewN | apply Kd.R_drew)); exact Kd.R_mono HO_244001.out (fun _ hk => ⟨hk.1.1, hk.1.2⟩)⟩, ⟨by (with_reducible repeat (first | apply Kd.R_alloc | apply Kd.R_drewN | apply Kd.R_drew)); exact Kd.R_mono HO_252000.out (fun _ hk => ⟨hk.1, hk.2.1⟩)⟩, ⟨by (with_reducible repeat (first | apply Kd.R_alloc | apply Kd.R_drewN | apply Kd.R_drew)); exact Kd.R_mono HO_252001.out (fun _ hk => ⟨hk.1, hk.2.1⟩)⟩, ⟨by (with_reducible repeat (first | refine blk_drewN ?_ _ | refine blk_drew ?_ | refine blk_alloc ?_ _)); exact BK221.out⟩, ⟨by (with_reducible repeat (first | refine blk_drewN ?_ _ | refine blk_drew ?_ | refine blk_alloc ?_ _)); exact BK236.out⟩, ⟨by (with_reducible repeat (first | refine blk_drewN ?_ _ | refine blk_drew ?_ | refine blk_alloc ?_ _)); exact BK243.out⟩, ⟨by (with_reducible repeat (first | refine blk_drewN ?_ _ | refine blk_drew ?_ | refine blk_alloc ?_ _)); exact BK251.out⟩, ⟨by repeat (first | (with_reducible first | exact HB.out | apply below_alloc | apply pw_below_drewN | apply below_drew1 | refine below_set ?_ GE221.out | refine below_set ?_ GE236.out | refine below_set ?_ GE243.out | refine below_set ?_ GE251.out) | exact HB.out)⟩⟩
                  · replace c81 := Bool.eq_false_iff.mpr c81
                    subst c81
                    have H1 : (laws_FnExactLay.j1 kj14 a1 a2 t235 true l0_0 l0_1 t229 t232 t244 t247) = some r := by rw [if_neg (show ¬ (false = true) by decide)] at H; exact H
                    clear H
                    have H := H1
                    clear H1
                    have H' := Aside0.mk H
                    clear H
                    have hnb90 := NB251_221.out
                    have hnc90 := NB221_251.out
                    have hnb91 := NB251_236.out
                    have hnc91 := NB236_251.out
                    have hnb92 := NB251_243.out
                    have hnc92 := NB243_251.out
                    have hcz93_0 : w78.cell? ⟨gb251, 0, none⟩ = some (.slice Ao39 t244.length co39) := (blk_cell BK251.out 0).trans rfl
                    have hcz93_1 : w78.cell? ⟨gb251, 1, none⟩ = some (.slice Ao44 t247.length co44) := (blk_cell BK251.out 1).trans rfl
                    have hfz93_0 := blk_frozen BK251.out 0
                    have hfz93_1 := blk_frozen BK251.out 1
                    have hnb94 := NB236_221.out
                    have hnc94 := NB221_236.out
                    have hnb95 := NB236_243.out
                    have hnc95 := NB243_236.out
                    have hcz96_0 : w78.cell? ⟨gb236, 0, none⟩ = some (.slice Ao25 t229.length co25) := (blk_cell BK236.out 0).trans rfl
                    have hcz96_1 : w78.cell? ⟨gb236, 1, none⟩ = some (.slice Ao28 t232.length co28) := (blk_cell BK236.out 1).trans rfl
                    have hfz96_0 := blk_frozen BK236.out 0
                    have hfz96_1 := blk_frozen BK236.out 1
                    go_wp2_with (first | (go_at_call 18; (with_reducible refine (laws_eqDevice.calls kj14 _ _ t244 _ _ t247 _ _ t229 _ _ t232 false _ ?side1 ?side2 ?side3 ?side4 ?side5 ?side6 ?side7 ?side8 A80.out).mono ?_); (case side1 => repeat (first | exact (Kd.R_reads' HO_252000.out).2.2 | (with_reducible refine Kd.C_alloc ?_ _) | (with_reducible refine Kd.C_drewN ?_ _) | (with_reducible refine Kd.C_drew ?_))); (case side2 => exact (Kd.R_reads' HO_252000.out).2.1); (case side3 => repeat (first | exact (Kd.R_reads' HO_252001.out).2.2 | (with_reducible refine Kd.C_alloc ?_ _) | (with_reducible refine Kd.C_drewN ?_ _) | (with_reducible refine Kd.C_drew ?_))); (case side4 => exact (Kd.R_reads' HO_252001.out).2.1); (case side5 => repeat (first | exact (Kd.R_reads' HO_237000.out).2.2 | (with_reducible refine Kd.C_alloc ?_ _) | (with_reducible refine Kd.C_drewN ?_ _) | (with_reducible refine Kd.C_drew ?_))); (case side6 => exact (Kd.R_reads' HO_237000.out).2.1); (case side7 => repeat (first | exact (Kd.R_reads' HO_237001.out).2.2 | (with_reducible refine Kd.C_alloc ?_ _) | (with_reducible refine Kd.C_drewN ?_ _) | (with_reducible refine Kd.C_drew ?_))); (case side8 => exact (Kd.R_reads' HO_237001.out).2.1); rintro e w97 ⟨rfl, hb⟩; have n0_ := Aside0.mk (Kd.R_below (by (with_reducible repeat (first | apply Kd.R_alloc | apply Kd.R_drewN | apply Kd.R_drew)); exact HO_237000.out) hb); have n1_ := Aside0.mk (Kd.R_below (by (with_reducible repeat (first | apply Kd.R_alloc | apply Kd.R_drewN | apply Kd.R_drew)); exact HO_237001.out) hb); have n2_ := Aside0.mk (Kd.R_below (by (with_reducible repeat (first | apply Kd.R_alloc | apply Kd.R_drewN | apply Kd.R_drew)); exact HO_244000.out) hb); have n3_ := Aside0.mk (Kd.R_below (by (with_reducible repeat (first | apply Kd.R_alloc | apply Kd.R_drewN | apply Kd.R_drew)); exact HO_244001.out) hb); have n4_ := Aside0.mk (Kd.R_below (by (with_reducible repeat (first | apply Kd.R_alloc | apply Kd.R_drewN | apply Kd.R_drew)); exact HO_252000.out) hb); have n5_ := Aside0.mk (Kd.R_below (by (with_reducible repeat (first | apply Kd.R_alloc | apply Kd.R_drewN | apply Kd.R_drew)); exact HO_252001.out) hb); have n6_ := Aside0.mk (Kd.R_below (by (with_reducible repeat (first | apply Kd.R_alloc | apply Kd.R_drewN | apply Kd.R_drew)); exact HO255.out) hb); have n7_ := Aside0.mk (Kd.R_below (by (with_reducible repeat (first | apply Kd.R_alloc | apply Kd.R_drewN | apply Kd.R_drew)); exact HO258.out) hb); have n8_ := Aside0.mk (blk_below (g := gb221) (o := .cells #[.slice A0_0 l0_0.length c0_0, .slice A0_1 l0_1.length c0_1] 40 (0, 0)) (by (with_reducible repeat (first | refine blk_drewN ?_ _ | refine blk_drew ?_ | refine blk_alloc ?_ _)); exact BK221.out) hb); have n9_ := Aside0.mk (blk_below (g := gb236) (o := .cells #[.slice Ao25 t229.length co25, .slice Ao28 t232.length co28] 44 (0, 0)) (by (with_reducible repeat (first | refine blk_drewN ?_ _ | refine blk_drew ?_ | refine blk_alloc ?_ _)); exact BK236.out) hb); have n10_ := Aside0.mk (blk_below (g := gb243) (o := .cells #[.slice Ao32 t237.length co32, .slice Ao36 t240.length co36] 44 (0, 0)) (by (with_reducible repeat (first | refine blk_drewN ?_ _ | refine blk_drew ?_ | refine blk_alloc ?_ _)); exact BK243.out) hb); have n11_ := Aside0.mk (blk_below (g := gb251) (o := .cells #[.slice Ao39 t244.length co39, .slice Ao44 t247.length co44] 44 (0, 0)) (by (with_reducible repeat (first | refine blk_drewN ?_ _ | refine blk_drew ?_ | refine blk_alloc ?_ _)); exact BK251.out) hb); have n12_ := Aside0.mk (below_step (by repeat (first | (with_reducible first | exact HB.out | apply below_alloc | apply pw_below_drewN | apply below_drew1 | refine below_set ?_ GE221.out | refine below_set ?_ GE236.out | refine below_set ?_ GE243.out | refine below_set ?_ GE251.out) | exact HB.out)) hb); clear HO_237000; clear HO_237001; clear HO_244000; clear HO_244001; clear HO_252000; clear HO_252001; clear HO255; clear HO258; clear BK221; clear BK236; clear BK243; clear BK251; clear HB; have HO_237000 := n0_; have HO_237001 := n1_; have HO_244000 := n2_; have HO_244001 := n3_; have HO_252000 := n4_; have HO_252001 := n5_; have HO255 := n6_; have HO258 := n7_; have BK221 := n8_; have BK236 := n9_; have BK243 := n10_; have BK251 := n11_; have HB := n12_; clear n0_ n1_ n2_ n3_ n4_ n5_ n6_ n7_ n8_ n9_ n10_ n11_ n12_; (try clear hb); (try clear hb2); (try clear hk); (try clear hi)))
                    go_meet
                    case rel => exact ⟨_, (true), (by first | rfl | (simp; done) | (simp [*]; done)), H', ⟨by have := HJ14.out; first | omega | exact Nat.le_refl _⟩, ⟨by (with_reducible repeat (first | apply Kd.R_alloc | apply Kd.R_drewN | apply Kd.R_drew)); exact Kd.R_mono HO_237000.out (fun _ hk => ⟨hk.1, hk.2.1⟩)⟩, ⟨by (with_reducible repeat (first | apply Kd.R_alloc | apply Kd.R_drewN | apply Kd.R_drew)); exact Kd.R_mono HO_237001.out (fun _ hk => ⟨hk.1, hk.2.1⟩)⟩, ⟨by (with_reducible repeat (first | apply Kd.R_alloc | apply Kd.R_drewN | apply Kd.R_drew)); exact Kd.R_mono HO_244000.out (fun _ hk => ⟨hk.1.1, hk.1.2⟩)⟩, ⟨by (with_reducible repeat (first | apply Kd.R_alloc | apply Kd.R_drewN | apply Kd.R_drew)); exact Kd.R_mono HO_244001.out (fun _ hk => ⟨hk.1.1, hk.1.2⟩)⟩, ⟨by (with_reducible repeat (first | apply Kd.R_alloc | apply Kd.R_drewN | apply Kd.R_drew)); exact Kd.R_mono HO_252000.out (fun _ hk => ⟨hk.1, hk.2.1⟩)⟩, ⟨by (with_reducible repeat (first | apply Kd.R_alloc | apply Kd.R_drewN | apply Kd.R_drew)); exact Kd.R_mono HO_252001.out (fun _ hk => ⟨hk.1, hk.2.1⟩)⟩, ⟨by (with_reducible repeat (first | refine blk_drewN ?_ _ | refine blk_drew ?_ | refine blk_alloc ?_ _)); exact BK221.out⟩, ⟨by (with_reducible repeat (first | refine blk_drewN ?_ _ | refine blk_drew ?_ | refine blk_alloc ?_ _)); exact BK236.out⟩, ⟨by (with_reducible repeat (first | refine blk_drewN ?_ _ | refine blk_drew ?_ | refine blk_alloc ?_ _)); exact BK243.out⟩, ⟨by (with_reducible repeat (first | refine blk_drewN ?_ _ | refine blk_drew ?_ | refine blk_alloc ?_ _)); exact BK251.out⟩, ⟨by repeat (first | (with_reducible first | exact HB.out | apply below_alloc | apply pw_below_drewN | apply below_drew1 | refine below_set ?_ GE221.out | refine below_set ?_ GE236.out | refine below_set ?_ GE243.out | refine below_set ?_ GE251.out) | exact HB.out)⟩⟩
              case rest =>
                clear HC68
                try clear c1
                try clear c2
                try clear p2
                try clear c3
                try clear c4
                try clear c4b0
                try clear c4b1
                try clear c5
                try clear c6
                try clear c7
                try clear c7b0
                try clear c8
                try clear c9
                try clear c14
                try clear c15
                try clear c16
                try clear c17
                try clear c18
                try clear c19
                try clear c26
                try clear c33
                try clear c34
                try clear c40
                try clear c41
                try clear c42
                try clear c46
                try clear c47
                try clear c48
                try clear c49
                try clear c51
                try clear c52
                try clear c55
                try clear c56
                try clear c57
                try clear c59
                try clear c60
                try clear c63
                try clear c66
                try clear c74
                try clear c75
                try clear c76
                try clear c79
                try clear c79b0
                try clear c81
                try clear c82
                try clear c83
                try clear c84
                try clear c86
                try clear c87
                try clear c90
                try clear c91
                try clear c92
                try clear c94
                try clear c95
                try clear hcz17_0
                try clear hcz17_1
                try clear hcz19_0
                try clear hcz19_1
                try clear hcz27_0
                try clear hcz27_1
                try clear hcz29_0
                try clear hcz29_1
                try clear hcz35_0
                try clear hcz35_1
                try clear hcz43_0
                try clear hcz43_1
                try clear hcz50_0
                try clear hcz50_1
                try clear hcz53_0
                try clear hcz53_1
                try clear hcz58_0
                try clear hcz58_1
                try clear hcz61_0
                try clear hcz61_1
                try clear hcz77_0
                try clear hcz77_1
                try clear hcz85_0
                try clear hcz85_1
                try clear hcz88_0
                try clear hcz88_1
                try clear hcz93_0
                try clear hcz93_1
                try clear hcz96_0
                try clear hcz96_1
                try clear hcz9_0
                try clear hcz9_1
                try clear hfz17_0
                try clear hfz17_1
                try clear hfz19_0
                try clear hfz19_1
                try clear hfz27_0
                try clear hfz27_1
                try clear hfz29_0
                try clear hfz29_1
                try clear hfz35_0
                try clear hfz35_1
                try clear hfz43_0
                try clear hfz43_1
                try clear hfz50_0
                try clear hfz50_1
                try clear hfz53_0
                try clear hfz53_1
                try clear hfz58_0
                try clear hfz58_1
                try clear hfz61_0
                try clear hfz61_1
                try clear hfz77_0
                try clear hfz77_1
                try clear hfz85_0
                try clear hfz85_1
                try clear hfz88_0
                try clear hfz88_1
                try clear hfz93_0
                try clear hfz93_1
                try clear hfz96_0
                try clear hfz96_1
                try clear hfz9_0
                try clear hfz9_1
                try clear p2
                obtain ⟨kq, x72_67, rfl, HA, HJ67, HO_237000, HO_237001, HO_244000, HO_244001, HO_252000, HO_252001, BK221, BK236, BK243, BK251, HB⟩ := hcut
                have hl244000_67 := (Kd.R_reads' HO_244000.out).1
                rw [hl244000_67] at HO_244000
                (try simp only [hl244000_67])
                (try simp only [hl244000_67] at BK221)
                (try simp only [hl244000_67] at BK236)
                (try simp only [hl244000_67] at BK243)
                (try simp only [hl244000_67] at BK251)
                (try simp only [hl244000_67] at HO_237000)
                (try simp only [hl244000_67] at HO_237001)
                (try simp only [hl244000_67] at HO_244001)
                (try simp only [hl244000_67] at HO_252000)
                (try simp only [hl244000_67] at HO_252001)
                have hl244001_67 := (Kd.R_reads' HO_244001.out).1
                rw [hl244001_67] at HO_244001
                (try simp only [hl244001_67])
                (try simp only [hl244001_67] at BK221)
                (try simp only [hl244001_67] at BK236)
                (try simp only [hl244001_67] at BK243)
                (try simp only [hl244001_67] at BK251)
                (try simp only [hl244001_67] at HO_237000)
                (try simp only [hl244001_67] at HO_237001)
                (try simp only [hl244001_67] at HO_244000)
                (try simp only [hl244001_67] at HO_252000)
                (try simp only [hl244001_67] at HO_252001)
                cases kq with
                | zero => exact absurd HA.out (by simp [laws_FnExactLay.j1])
                | succ kj67 =>
                  have H := HA.out
                  clear HA
                  simp only [laws_FnExactLay.j1] at H
                  by_cases c98 : x72_67 = true
                  · subst c98
                    have H1 : (some false) = some r := by rw [if_pos rfl] at H; exact H
                    clear H
                    have H := H1
                    clear H1
                    exact absurd ((Option.some.inj H).trans hT.out) (by decide)
                  · replace c98 := Bool.eq_false_iff.mpr c98
                    subst c98
                    have H1 : ((laws_markDevice.f kj67 t244 t247 1).bind fun bt264 => ((laws_heldDevice.f kj67 bt264.2.1 bt264.2.2 1).bind fun t267 => (if t267 < 0 then (some false) else (if t267 = bt264.1 then ((laws_toDevice.f kj67 l0_0 l0_1).bind fun bt268 => ((impl_Lay.f bt268.1 bt268.2 a1 a2).bind fun bt274 => ((laws_eqDevice.f kj67 bt274.1 bt274.2.1 t229 t232).bind fun t282 => (if t282 = true then (laws_FnExactLay.j2 kj67 bt264.1 (bt274.2.2 != t235) bt264.2.1 bt264.2.2) else (laws_FnExactLay.j2 kj67 bt264.1 true bt264.2.1 bt264.2.2))))) else (some false))))) = some r := by rw [if_neg (show ¬ (false = true) by decide)] at H; exact H
                    clear H
                    have H := H1
                    clear H1
                    replace H := Option.bind_eq_some_iff.mp H
                    obtain ⟨⟨t264, t265, t266⟩, A990, H⟩ := H
                    replace H : ((laws_heldDevice.f kj67 t265 t266 1).bind fun t267 => (if t267 < 0 then (some false) else (if t267 = t264 then ((laws_toDevice.f kj67 l0_0 l0_1).bind fun bt268 => ((impl_Lay.f bt268.1 bt268.2 a1 a2).bind fun bt274 => ((laws_eqDevice.f kj67 bt274.1 bt274.2.1 t229 t232).bind fun t282 => (if t282 = true then (laws_FnExactLay.j2 kj67 t264 (bt274.2.2 != t235) t265 t266) else (laws_FnExactLay.j2 kj67 t264 true t265 t266))))) else (some false)))) = some r := H
                    have A99 := Aside0.mk A990
                    clear A990
                    replace H := Option.bind_eq_some_iff.mp H
                    obtain ⟨t267, A1000, H⟩ := H
                    replace H : (if t267 < 0 then (some false) else (if t267 = t264 then ((laws_toDevice.f kj67 l0_0 l0_1).bind fun bt268 => ((impl_Lay.f bt268.1 bt268.2 a1 a2).bind fun bt274 => ((laws_eqDevice.f kj67 bt274.1 bt274.2.1 t229 t232).bind fun t282 => (if t282 = true then (laws_FnExactLay.j2 kj67 t264 (bt274.2.2 != t235) t265 t266) else (laws_FnExactLay.j2 kj67 t264 true t265 t266))))) else (some false))) = some r := H
                    have A100 := Aside0.mk A1000
                    clear A1000
                    by_cases c101 : t267 < 0
                    · rw [if_pos c101] at H
                      have c101b0 : decide (t267 < 0) = true := decide_eq_true c101
                      clear c101
                      exact absurd ((Option.some.inj H).trans hT.out) (by decide)
                    · rw [if_neg c101] at H
                      have c101b0 : decide (t267 < 0) = false := decide_eq_false c101
                      clear c101
                      by_cases c102 : t267 = t264
                      · rw [if_pos c102] at H
                        have c102b0 : (t267 == t264) = true := beq_iff_eq.mpr c102
                        have c102b1 : (t267 != t264) = false := bne_eq_false_iff_eq.mpr c102
                        clear c102
                        replace H := Option.bind_eq_some_iff.mp H
                        obtain ⟨⟨t268, t271⟩, A1030, H⟩ := H
                        replace H : ((impl_Lay.f t268 t271 a1 a2).bind fun bt274 => ((laws_eqDevice.f kj67 bt274.1 bt274.2.1 t229 t232).bind fun t282 => (if t282 = true then (laws_FnExactLay.j2 kj67 t264 (bt274.2.2 != t235) t265 t266) else (laws_FnExactLay.j2 kj67 t264 true t265 t266)))) = some r := H
                        have A103 := Aside0.mk A1030
                        clear A1030
                        replace H := Option.bind_eq_some_iff.mp H
                        obtain ⟨⟨t274, t277, t280⟩, A1040, H⟩ := H
                        replace H : ((laws_eqDevice.f kj67 t274 t277 t229 t232).bind fun t282 => (if t282 = true then (laws_FnExactLay.j2 kj67 t264 (t280 != t235) t265 t266) else (laws_FnExactLay.j2 kj67 t264 true t265 t266))) = some r := H
                        have A104 := Aside0.mk A1040
                        clear A1040
                        have HC105 := Aside0.mk H
                        clear H
                        have hnb106 := NB251_221.out
                        have hnc106 := NB221_251.out
                        have hnb107 := NB251_236.out
                        have hnc107 := NB236_251.out
                        have hnb108 := NB251_243.out
                        have hnc108 := NB243_251.out
                        have hcz109_0 : wc.cell? ⟨gb251, 0, none⟩ = some (.slice Ao39 t244.length co39) := (blk_cell BK251.out 0).trans rfl
                        have hcz109_1 : wc.cell? ⟨gb251, 1, none⟩ = some (.slice Ao44 t247.length co44) := (blk_cell BK251.out 1).trans rfl
                        have hfz109_0 := blk_frozen BK251.out 0
                        have hfz109_1 := blk_frozen BK251.out 1
                        go_upto_region 27 with (first | ((with_reducible refine gate_callee (f := 19) rfl ?_); refine goesL_ (some 75) rfl rfl Try.func19 (by kernel_rfl) rfl #[.agg #[.slice Ao39 t244.length co39, .slice Ao44 t247.length co44], .int .i64 1] rfl (by (try simp only [List.map_toArray, List.map_cons, List.map_nil]); first | done | rfl | (simp only [List.length_drop, List.length_take]; rfl)) ?_; (with_reducible refine (laws_markDevice.calls kj67 (fun k_ => some k_ = (.slice Ao39 t244.length co39 : Value).ownBlock) (.slice Ao39 t244.length co39) t244 (fun k_ => some k_ = (.slice Ao44 t247.length co44 : Value).ownBlock) (.slice Ao44 t247.length co44) t247 1 t264 t265 t266 w _ ?side1 ?side2 ?side3 A99.out).mono ?_); (case side1 => repeat (first | (with_reducible first | exact HB.out | apply below_alloc | apply pw_below_drewN | apply below_drew1 | refine below_set ?_ GE221.out | refine below_set ?_ GE236.out | refine below_set ?_ GE243.out | refine below_set ?_ GE251.out) | exact HB.out)); (case side2 => exact Kd.R_tight rfl HO_252000.out); (case side3 => exact Kd.R_tight rfl HO_252001.out); rintro e w110 ⟨rfl, hy0, hy1, hb, hkp⟩; refine ⟨_, rfl, ?_⟩; have n0_ := Aside0.mk (Kd.R_mono (ok' := fun k_ => some k_ ≠ (.slice Ao32 t261.length co32 : Value).ownBlock ∧ some k_ ≠ (.slice Ao39 t244.length co39 : Value).ownBlock) (Kd.R_keptB ((Kd.R_apart' HO_237000.out (Kd.R_typed HO_252001.out) (by decide))) hkp (fun k_ hk_ hs_ => Or.elim hs_ (fun e_ => (hk_.1.2) e_) (fun e_ => (hk_.2) e_))) (fun k_ hk_ => ⟨hk_.1.1.1, hk_.1.1.2⟩)); have n1_ := Aside0.mk (Kd.R_mono (ok' := fun k_ => some k_ ≠ (.slice Ao36 t262.length co36 : Value).ownBlock ∧ some k_ ≠ (.slice Ao44 t247.length co44 : Value).ownBlock) (Kd.R_keptB ((Kd.R_apart' HO_237001.out (Kd.R_typed HO_252000.out) (by decide))) hkp (fun k_ hk_ hs_ => Or.elim hs_ (fun e_ => (hk_.2) e_) (fun e_ => (hk_.1.2) e_))) (fun k_ hk_ => ⟨hk_.1.1.1, hk_.1.1.2⟩)); have n2_ := Aside0.mk (Kd.R_mono (ok' := fun k_ => some k_ ≠ (.slice Ao25 t229.length co25 : Value).ownBlock ∧ some k_ ≠ (.slice Ao39 t244.length co39 : Value).ownBlock) (Kd.R_keptB ((Kd.R_apart' HO_244000.out (Kd.R_typed HO_252001.out) (by decide))) hkp (fun k_ hk_ hs_ => Or.elim hs_ (fun e_ => (hk_.1.2) e_) (fun e_ => (hk_.2) e_))) (fun k_ hk_ => ⟨hk_.1.1.1, hk_.1.1.2⟩)); have n3_ := Aside0.mk (Kd.R_mono (ok' := fun k_ => some k_ ≠ (.slice Ao28 t232.length co28 : Value).ownBlock ∧ some k_ ≠ (.slice Ao44 t247.length co44 : Value).ownBlock) (Kd.R_keptB ((Kd.R_apart' HO_244001.out (Kd.R_typed HO_252000.out) (by decide))) hkp (fun k_ hk_ hs_ => Or.elim hs_ (fun e_ => (hk_.2) e_) (fun e_ => (hk_.1.2) e_))) (fun k_ hk_ => ⟨hk_.1.1.1, hk_.1.1.2⟩)); have n4_ := Aside0.mk (Kd.R_reok rfl hy0 (fun k_ e_ => HO_252000.out.1 k_ e_)); have n5_ := Aside0.mk (Kd.R_reok rfl hy1 (fun k_ e_ => HO_252001.out.1 k_ e_)); have n6_ := Aside0.mk (blk_kept (by (with_reducible repeat (first | refine blk_drewN ?_ _ | refine blk_drew ?_ | refine blk_alloc ?_ _)); exact BK221.out) hkp (fun hs_ => Or.elim hs_ (fun e_ => (fun e_ => (Kd.R_ne HO_252000.out BK221.out (by decide)) e_) e_) (fun e_ => (fun e_ => (Kd.R_ne HO_252001.out BK221.out (by decide)) e_) e_))); have n7_ := Aside0.mk (blk_kept (by (with_reducible repeat (first | refine blk_drewN ?_ _ | refine blk_drew ?_ | refine blk_alloc ?_ _)); exact BK236.out) hkp (fun hs_ => Or.elim hs_ (fun e_ => (fun e_ => (Kd.R_ne HO_252000.out BK236.out (by decide)) e_) e_) (fun e_ => (fun e_ => (Kd.R_ne HO_252001.out BK236.out (by decide)) e_) e_))); have n8_ := Aside0.mk (blk_kept (by (with_reducible repeat (first | refine blk_drewN ?_ _ | refine blk_drew ?_ | refine blk_alloc ?_ _)); exact BK243.out) hkp (fun hs_ => Or.elim hs_ (fun e_ => (fun e_ => (Kd.R_ne HO_252000.out BK243.out (by decide)) e_) e_) (fun e_ => (fun e_ => (Kd.R_ne HO_252001.out BK243.out (by decide)) e_) e_))); have n9_ := Aside0.mk (blk_kept (by (with_reducible repeat (first | refine blk_drewN ?_ _ | refine blk_drew ?_ | refine blk_alloc ?_ _)); exact BK251.out) hkp (fun hs_ => Or.elim hs_ (fun e_ => (fun e_ => (Kd.R_ne HO_252000.out BK251.out (by decide)) e_) e_) (fun e_ => (fun e_ => (Kd.R_ne HO_252001.out BK251.out (by decide)) e_) e_))); have n10_ := Aside0.mk (hb); clear HO_237000; clear HO_237001; clear HO_244000; clear HO_244001; clear HO_252000; clear HO_252001; clear BK221; clear BK236; clear BK243; clear BK251; clear HB; have HO_237000 := n0_; have HO_237001 := n1_; have HO_244000 := n2_; have HO_244001 := n3_; have HO_252000 := n4_; have HO_252001 := n5_; have BK221 := n6_; have BK236 := n7_; have BK243 := n8_; have BK251 := n9_; have HB := n10_; clear n0_ n1_ n2_ n3_ n4_ n5_ n6_ n7_ n8_ n9_ n10_; (try clear hb); (try clear hkp); (try clear hy0); (try clear hy1); have hcz111_0 : w110.cell? ⟨gb251, 0, none⟩ = some (.slice Ao39 t244.length co39) := (blk_cell BK251.out 0).trans rfl; have hcz111_1 : w110.cell? ⟨gb251, 1, none⟩ = some (.slice Ao44 t247.length co44) := (blk_cell BK251.out 1).trans rfl; have hfz111_0 := blk_frozen BK251.out 0; have hfz111_1 := blk_frozen BK251.out 1) | ((with_reducible refine gate_callee (f := 20) rfl ?_); refine goesL_ (some 78) rfl rfl Try.func20 (by kernel_rfl) rfl #[.agg #[.slice Ao39 t265.length co39, .slice Ao44 t266.length co44], .int .i64 1] rfl (by (try simp only [List.map_toArray, List.map_cons, List.map_nil]); first | done | (rw [show t265.length = t244.length from (Kd.R_reads' HO_252000.out).1.symm, show t266.length = t247.length from (Kd.R_reads' HO_252001.out).1.symm] <;> rfl) | rfl | (simp only [List.length_drop, List.length_take]; rfl)) ?_; (with_reducible refine (laws_heldDevice.calls kj67 _ _ t265 _ _ t266 1 t267 _ ?side1 ?side2 ?side3 ?side4 A100.out).mono ?_); (case side1 => repeat (first | exact (Kd.R_reads' HO_252000.out).2.2 | (with_reducible refine Kd.C_alloc ?_ _) | (with_reducible refine Kd.C_drewN ?_ _) | (with_reducible refine Kd.C_drew ?_))); (case side2 => rw [show t265.length = t244.length from (Kd.R_reads' HO_252000.out).1.symm]; exact (Kd.R_reads' HO_252000.out).2.1); (case side3 => repeat (first | exact (Kd.R_reads' HO_252001.out).2.2 | (with_reducible refine Kd.C_alloc ?_ _) | (with_reducible refine Kd.C_drewN ?_ _) | (with_reducible refine Kd.C_drew ?_))); (case side4 => rw [show t266.length = t247.length from (Kd.R_reads' HO_252001.out).1.symm]; exact (Kd.R_reads' HO_252001.out).2.1); rintro e w112 ⟨rfl, hb⟩; refine ⟨_, rfl, ?_⟩; have n0_ := Aside0.mk (Kd.R_below (by (with_reducible repeat (first | apply Kd.R_alloc | apply Kd.R_drewN | apply Kd.R_drew)); exact HO_237000.out) hb); have n1_ := Aside0.mk (Kd.R_below (by (with_reducible repeat (first | apply Kd.R_alloc | apply Kd.R_drewN | apply Kd.R_drew)); exact HO_237001.out) hb); have n2_ := Aside0.mk (Kd.R_below (by (with_reducible repeat (first | apply Kd.R_alloc | apply Kd.R_drewN | apply Kd.R_drew)); exact HO_244000.out) hb); have n3_ := Aside0.mk (Kd.R_below (by (with_reducible repeat (first | apply Kd.R_alloc | apply Kd.R_drewN | apply Kd.R_drew)); exact HO_244001.out) hb); have n4_ := Aside0.mk (Kd.R_below (by (with_reducible repeat (first | apply Kd.R_alloc | apply Kd.R_drewN | apply Kd.R_drew)); exact HO_252000.out) hb); have n5_ := Aside0.mk (Kd.R_below (by (with_reducible repeat (first | apply Kd.R_alloc | apply Kd.R_drewN | apply Kd.R_drew)); exact HO_252001.out) hb); have n6_ := Aside0.mk (blk_below (g := gb221) (o := .cells #[.slice A0_0 l0_0.length c0_0, .slice A0_1 l0_1.length c0_1] 40 (0, 0)) (by (with_reducible repeat (first | refine blk_drewN ?_ _ | refine blk_drew ?_ | refine blk_alloc ?_ _)); exact BK221.out) hb); have n7_ := Aside0.mk (blk_below (g := gb236) (o := .cells #[.slice Ao25 t229.length co25, .slice Ao28 t232.length co28] 44 (0, 0)) (by (with_reducible repeat (first | refine blk_drewN ?_ _ | refine blk_drew ?_ | refine blk_alloc ?_ _)); exact BK236.out) hb); have n8_ := Aside0.mk (blk_below (g := gb243) (o := .cells #[.slice Ao32 t261.length co32, .slice Ao36 t262.length co36] 44 (0, 0)) (by (with_reducible repeat (first | refine blk_drewN ?_ _ | refine blk_drew ?_ | refine blk_alloc ?_ _)); exact BK243.out) hb); have n9_ := Aside0.mk (blk_below (g := gb251) (o := .cells #[.slice Ao39 t244.length co39, .slice Ao44 t247.length co44] 44 (0, 0)) (by (with_reducible repeat (first | refine blk_drewN ?_ _ | refine blk_drew ?_ | refine blk_alloc ?_ _)); exact BK251.out) hb); have n10_ := Aside0.mk (below_step (by repeat (first | (with_reducible first | exact HB.out | apply below_alloc | apply pw_below_drewN | apply below_drew1 | refine below_set ?_ GE221.out | refine below_set ?_ GE236.out | refine below_set ?_ GE243.out | refine below_set ?_ GE251.out) | exact HB.out)) hb); clear HO_237000; clear HO_237001; clear HO_244000; clear HO_244001; clear HO_252000; clear HO_252001; clear BK221; clear BK236; clear BK243; clear BK251; clear HB; have HO_237000 := n0_; have HO_237001 := n1_; have HO_244000 := n2_; have HO_244001 := n3_; have HO_252000 := n4_; have HO_252001 := n5_; have BK221 := n6_; have BK236 := n7_; have BK243 := n8_; have BK251 := n9_; have HB := n10_; clear n0_ n1_ n2_ n3_ n4_ n5_ n6_ n7_ n8_ n9_ n10_; (try clear hb); (try clear hb2); (try clear hk); (try clear hi); have hnb113 := NB221_236.out; have hnc113 := NB236_221.out; have hnb114 := NB221_243.out; have hnc114 := NB243_221.out; have hcz115_0 : w112.cell? ⟨gb221, 0, none⟩ = some (.slice A0_0 l0_0.length c0_0) := (blk_cell BK221.out 0).trans rfl; have hcz115_1 : w112.cell? ⟨gb221, 1, none⟩ = some (.slice A0_1 l0_1.length c0_1) := (blk_cell BK221.out 1).trans rfl; have hfz115_0 := blk_frozen BK221.out 0; have hfz115_1 := blk_frozen BK221.out 1) | ((with_reducible refine gate_callee (f := 16) rfl ?_); refine goesL_ (some 86) rfl rfl Try.func16 (by kernel_rfl) rfl #[.agg #[.slice A0_0 l0_0.length c0_0, .slice A0_1 l0_1.length c0_1]] rfl (by (try simp only [List.map_toArray, List.map_cons, List.map_nil]); first | done | rfl | (simp only [List.length_drop, List.length_take]; rfl)) ?_; (with_reducible refine (laws_toDevice.calls kj67 _ _ l0_0 _ _ l0_1 t268 t271 _ ?side1 ?side2 ?side3 ?side4 A103.out).mono ?_); (case side1 => repeat (first | exact (Kd.C_below HR0_0.out HB.out) | (with_reducible refine Kd.C_alloc ?_ _) | (with_reducible refine Kd.C_drewN ?_ _) | (with_reducible refine Kd.C_drew ?_))); (case side2 => exact HC0_0.out); (case side3 => repeat (first | exact (Kd.C_below HR0_1.out HB.out) | (with_reducible refine Kd.C_alloc ?_ _) | (with_reducible refine Kd.C_drewN ?_ _) | (with_reducible refine Kd.C_drew ?_))); (case side4 => exact HC0_1.out); rintro e w116 ⟨v269, v272, rfl, ho0, ho1, hb⟩; refine ⟨_, rfl, ?_⟩; have n0_ := Aside0.mk (Kd.R_elder' (by (with_reducible repeat (first | apply Kd.R_alloc | apply Kd.R_drewN | apply Kd.R_drew)); exact HO_237000.out) (Kd.R_base ho0) hb); have n1_ := Aside0.mk (Kd.R_elder' (by (with_reducible repeat (first | apply Kd.R_alloc | apply Kd.R_drewN | apply Kd.R_drew)); exact HO_237001.out) (Kd.R_base ho1) hb); have n2_ := Aside0.mk (Kd.R_elder' (by (with_reducible repeat (first | apply Kd.R_alloc | apply Kd.R_drewN | apply Kd.R_drew)); exact HO_244000.out) (Kd.R_base ho0) hb); have n3_ := Aside0.mk (Kd.R_elder' (by (with_reducible repeat (first | apply Kd.R_alloc | apply Kd.R_drewN | apply Kd.R_drew)); exact HO_244001.out) (Kd.R_base ho1) hb); have n4_ := Aside0.mk (Kd.R_elder' (by (with_reducible repeat (first | apply Kd.R_alloc | apply Kd.R_drewN | apply Kd.R_drew)); exact HO_252000.out) (Kd.R_base ho0) hb); have n5_ := Aside0.mk (Kd.R_elder' (by (with_reducible repeat (first | apply Kd.R_alloc | apply Kd.R_drewN | apply Kd.R_drew)); exact HO_252001.out) (Kd.R_base ho1) hb); have n6_ := Aside0.mk (Kd.R_lower (Kd.R_new' (Kd.R_new' (Kd.R_new' ho0 (Kd.R_lt (by (with_reducible repeat (first | apply Kd.R_alloc | apply Kd.R_drewN | apply Kd.R_drew)); exact HO_237000.out))) (Kd.R_lt (by (with_reducible repeat (first | apply Kd.R_alloc | apply Kd.R_drewN | apply Kd.R_drew)); exact HO_244000.out))) (Kd.R_lt (by (with_reducible repeat (first | apply Kd.R_alloc | apply Kd.R_drewN | apply Kd.R_drew)); exact HO_252000.out))) (below_size (by repeat (first | (with_reducible first | exact HB.out | apply below_alloc | apply pw_below_drewN | apply below_drew1 | refine below_set ?_ GE221.out | refine below_set ?_ GE236.out | refine below_set ?_ GE243.out | refine below_set ?_ GE251.out) | exact HB.out)))); have n7_ := Aside0.mk (Kd.R_lower (Kd.R_new' (Kd.R_new' (Kd.R_new' ho1 (Kd.R_lt (by (with_reducible repeat (first | apply Kd.R_alloc | apply Kd.R_drewN | apply Kd.R_drew)); exact HO_237001.out))) (Kd.R_lt (by (with_reducible repeat (first | apply Kd.R_alloc | apply Kd.R_drewN | apply Kd.R_drew)); exact HO_244001.out))) (Kd.R_lt (by (with_reducible repeat (first | apply Kd.R_alloc | apply Kd.R_drewN | apply Kd.R_drew)); exact HO_252001.out))) (below_size (by repeat (first | (with_reducible first | exact HB.out | apply below_alloc | apply pw_below_drewN | apply below_drew1 | refine below_set ?_ GE221.out | refine below_set ?_ GE236.out | refine below_set ?_ GE243.out | refine below_set ?_ GE251.out) | exact HB.out)))); have n8_ := Aside0.mk (blk_below (g := gb221) (o := .cells #[.slice A0_0 l0_0.length c0_0, .slice A0_1 l0_1.length c0_1] 40 (0, 0)) (by (with_reducible repeat (first | refine blk_drewN ?_ _ | refine blk_drew ?_ | refine blk_alloc ?_ _)); exact BK221.out) hb); have n9_ := Aside0.mk (blk_below (g := gb236) (o := .cells #[.slice Ao25 t229.length co25, .slice Ao28 t232.length co28] 44 (0, 0)) (by (with_reducible repeat (first | refine blk_drewN ?_ _ | refine blk_drew ?_ | refine blk_alloc ?_ _)); exact BK236.out) hb); have n10_ := Aside0.mk (blk_below (g := gb243) (o := .cells #[.slice Ao32 t261.length co32, .slice Ao36 t262.length co36] 44 (0, 0)) (by (with_reducible repeat (first | refine blk_drewN ?_ _ | refine blk_drew ?_ | refine blk_alloc ?_ _)); exact BK243.out) hb); have n11_ := Aside0.mk (blk_below (g := gb251) (o := .cells #[.slice Ao39 t244.length co39, .slice Ao44 t247.length co44] 44 (0, 0)) (by (with_reducible repeat (first | refine blk_drewN ?_ _ | refine blk_drew ?_ | refine blk_alloc ?_ _)); exact BK251.out) hb); have n12_ := Aside0.mk (below_step (by repeat (first | (with_reducible first | exact HB.out | apply below_alloc | apply pw_below_drewN | apply below_drew1 | refine below_set ?_ GE221.out | refine below_set ?_ GE236.out | refine below_set ?_ GE243.out | refine below_set ?_ GE251.out) | exact HB.out)) hb); clear HO_237000; clear HO_237001; clear HO_244000; clear HO_244001; clear HO_252000; clear HO_252001; clear BK221; clear BK236; clear BK243; clear BK251; clear HB; have HO_237000 := n0_; have HO_237001 := n1_; have HO_244000 := n2_; have HO_244001 := n3_; have HO_252000 := n4_; have HO_252001 := n5_; have HO270 := n6_; have HO273 := n7_; have BK221 := n8_; have BK236 := n9_; have BK243 := n10_; have BK251 := n11_; have HB := n12_; clear n0_ n1_ n2_ n3_ n4_ n5_ n6_ n7_ n8_ n9_ n10_ n11_ n12_; (try clear hb); (try clear hb2); (try clear hk); (try clear hi); (try clear ho0); (try clear ho1); obtain ⟨Ao117, co117, eo117⟩ := Kd.R_slice HO270.out; subst eo117; obtain ⟨Ao118, co118, eo118⟩ := Kd.R_slice HO273.out; subst eo118) | ((with_reducible refine gate_callee (f := 17) rfl ?_); refine goesL_ (some 89) rfl rfl Try.func17 (by kernel_rfl) rfl #[.agg #[.slice Ao117 t268.length co117, .slice Ao118 t271.length co118], .int .i64 a1, .string a2] rfl (by (try simp only [List.map_toArray, List.map_cons, List.map_nil]); first | done | rfl | (simp only [List.length_drop, List.length_take]; rfl)) ?_; (with_reducible refine (impl_Lay.calls _ _ t268 _ _ t271 a1 a2 t274 t277 t280 _ ?side1 ?side2 ?side3 ?side4 A104.out).mono ?_); (case side1 => repeat (first | exact (Kd.R_reads' HO270.out).2.2 | (with_reducible refine Kd.C_alloc ?_ _) | (with_reducible refine Kd.C_drewN ?_ _) | (with_reducible refine Kd.C_drew ?_))); (case side2 => exact (Kd.R_reads' HO270.out).2.1); (case side3 => repeat (first | exact (Kd.R_reads' HO273.out).2.2 | (with_reducible refine Kd.C_alloc ?_ _) | (with_reducible refine Kd.C_drewN ?_ _) | (with_reducible refine Kd.C_drew ?_))); (case side4 => exact (Kd.R_reads' HO273.out).2.1); rintro e w119 ⟨v275, v278, rfl, ho0, ho1, hb⟩; refine ⟨_, rfl, ?_⟩; have n0_ := Aside0.mk (Kd.R_elder' (by (with_reducible repeat (first | apply Kd.R_alloc | apply Kd.R_drewN | apply Kd.R_drew)); exact HO_237000.out) (Kd.R_base ho0) hb); have n1_ := Aside0.mk (Kd.R_elder' (by (with_reducible repeat (first | apply Kd.R_alloc | apply Kd.R_drewN | apply Kd.R_drew)); exact HO_237001.out) (Kd.R_base ho1) hb); have n2_ := Aside0.mk (Kd.R_elder' (by (with_reducible repeat (first | apply Kd.R_alloc | apply Kd.R_drewN | apply Kd.R_drew)); exact HO_244000.out) (Kd.R_base ho0) hb); have n3_ := Aside0.mk (Kd.R_elder' (by (with_reducible repeat (first | apply Kd.R_alloc | apply Kd.R_drewN | apply Kd.R_drew)); exact HO_244001.out) (Kd.R_base ho1) hb); have n4_ := Aside0.mk (Kd.R_elder' (by (with_reducible repeat (first | apply Kd.R_alloc | apply Kd.R_drewN | apply Kd.R_drew)); exact HO_252000.out) (Kd.R_base ho0) hb); have n5_ := Aside0.mk (Kd.R_elder' (by (with_reducible repeat (first | apply Kd.R_alloc | apply Kd.R_drewN | apply Kd.R_drew)); exact HO_252001.out) (Kd.R_base ho1) hb); have n6_ := Aside0.mk (Kd.R_elder' (by (with_reducible repeat (first | apply Kd.R_alloc | apply Kd.R_drewN | apply Kd.R_drew)); exact HO270.out) (Kd.R_base ho0) hb); have n7_ := Aside0.mk (Kd.R_elder' (by (with_reducible repeat (first | apply Kd.R_alloc | apply Kd.R_drewN | apply Kd.R_drew)); exact HO273.out) (Kd.R_base ho1) hb); have n8_ := Aside0.mk (Kd.R_lower (Kd.R_new' (Kd.R_new' (Kd.R_new' (Kd.R_new' ho0 (Kd.R_lt (by (with_reducible repeat (first | apply Kd.R_alloc | apply Kd.R_drewN | apply Kd.R_drew)); exact HO_237000.out))) (Kd.R_lt (by (with_reducible repeat (first | apply Kd.R_alloc | apply Kd.R_drewN | apply Kd.R_drew)); exact HO_244000.out))) (Kd.R_lt (by (with_reducible repeat (first | apply Kd.R_alloc | apply Kd.R_drewN | apply Kd.R_drew)); exact HO_252000.out))) (Kd.R_lt (by (with_reducible repeat (first | apply Kd.R_alloc | apply Kd.R_drewN | apply Kd.R_drew)); exact HO270.out))) (below_size (by repeat (first | (with_reducible first | exact HB.out | apply below_alloc | apply pw_below_drewN | apply below_drew1 | refine below_set ?_ GE221.out | refine below_set ?_ GE236.out | refine below_set ?_ GE243.out | refine below_set ?_ GE251.out) | exact HB.out)))); have n9_ := Aside0.mk (Kd.R_lower (Kd.R_new' (Kd.R_new' (Kd.R_new' (Kd.R_new' ho1 (Kd.R_lt (by (with_reducible repeat (first | apply Kd.R_alloc | apply Kd.R_drewN | apply Kd.R_drew)); exact HO_237001.out))) (Kd.R_lt (by (with_reducible repeat (first | apply Kd.R_alloc | apply Kd.R_drewN | apply Kd.R_drew)); exact HO_244001.out))) (Kd.R_lt (by (with_reducible repeat (first | apply Kd.R_alloc | apply Kd.R_drewN | apply Kd.R_drew)); exact HO_252001.out))) (Kd.R_lt (by (with_reducible repeat (first | apply Kd.R_alloc | apply Kd.R_drewN | apply Kd.R_drew)); exact HO273.out))) (below_size (by repeat (first | (with_reducible first | exact HB.out | apply below_alloc | apply pw_below_drewN | apply below_drew1 | refine below_set ?_ GE221.out | refine below_set ?_ GE236.out | refine below_set ?_ GE243.out | refine below_set ?_ GE251.out) | exact HB.out)))); have n10_ := Aside0.mk (blk_below (g := gb221) (o := .cells #[.slice A0_0 l0_0.length c0_0, .slice A0_1 l0_1.length c0_1] 40 (0, 0)) (by (with_reducible repeat (first | refine blk_drewN ?_ _ | refine blk_drew ?_ | refine blk_alloc ?_ _)); exact BK221.out) hb); have n11_ := Aside0.mk (blk_below (g := gb236) (o := .cells #[.slice Ao25 t229.length co25, .slice Ao28 t232.length co28] 44 (0, 0)) (by (with_reducible repeat (first | refine blk_drewN ?_ _ | refine blk_drew ?_ | refine blk_alloc ?_ _)); exact BK236.out) hb); have n12_ := Aside0.mk (blk_below (g := gb243) (o := .cells #[.slice Ao32 t261.length co32, .slice Ao36 t262.length co36] 44 (0, 0)) (by (with_reducible repeat (first | refine blk_drewN ?_ _ | refine blk_drew ?_ | refine blk_alloc ?_ _)); exact BK243.out) hb); have n13_ := Aside0.mk (blk_below (g := gb251) (o := .cells #[.slice Ao39 t244.length co39, .slice Ao44 t247.length co44] 44 (0, 0)) (by (with_reducible repeat (first | refine blk_drewN ?_ _ | refine blk_drew ?_ | refine blk_alloc ?_ _)); exact BK251.out) hb); have n14_ := Aside0.mk (below_step (by repeat (first | (with_reducible first | exact HB.out | apply below_alloc | apply pw_below_drewN | apply below_drew1 | refine below_set ?_ GE221.out | refine below_set ?_ GE236.out | refine below_set ?_ GE243.out | refine below_set ?_ GE251.out) | exact HB.out)) hb); clear HO_237000; clear HO_237001; clear HO_244000; clear HO_244001; clear HO_252000; clear HO_252001; clear HO270; clear HO273; clear BK221; clear BK236; clear BK243; clear BK251; clear HB; have HO_237000 := n0_; have HO_237001 := n1_; have HO_244000 := n2_; have HO_244001 := n3_; have HO_252000 := n4_; have HO_252001 := n5_; have HO270 := n6_; have HO273 := n7_; have HO276 := n8_; have HO279 := n9_; have BK221 := n10_; have BK236 := n11_; have BK243 := n12_; have BK251 := n13_; have HB := n14_; clear n0_ n1_ n2_ n3_ n4_ n5_ n6_ n7_ n8_ n9_ n10_ n11_ n12_ n13_ n14_; (try clear hb); (try clear hb2); (try clear hk); (try clear hi); (try clear ho0); (try clear ho1)) | ((with_reducible refine gate_dst (N := 16) rfl ?_); refine box_event ?hg (N := 16) ?hd (cs := #[.slice none 0 0, .slice none 0 0]) (t := 44) ?hr ?_; (case hd => rfl); (case hg => rfl); (case hr => first | (go_simp; done) | (go_simp; rfl)); intro gb281 hg w120 hbox hb; have n0_ := Aside0.mk (Kd.R_below (by (with_reducible repeat (first | apply Kd.R_alloc | apply Kd.R_drewN | apply Kd.R_drew)); exact HO_237000.out) hb); have n1_ := Aside0.mk (Kd.R_below (by (with_reducible repeat (first | apply Kd.R_alloc | apply Kd.R_drewN | apply Kd.R_drew)); exact HO_237001.out) hb); have n2_ := Aside0.mk (Kd.R_below (by (with_reducible repeat (first | apply Kd.R_alloc | apply Kd.R_drewN | apply Kd.R_drew)); exact HO_244000.out) hb); have n3_ := Aside0.mk (Kd.R_below (by (with_reducible repeat (first | apply Kd.R_alloc | apply Kd.R_drewN | apply Kd.R_drew)); exact HO_244001.out) hb); have n4_ := Aside0.mk (Kd.R_below (by (with_reducible repeat (first | apply Kd.R_alloc | apply Kd.R_drewN | apply Kd.R_drew)); exact HO_252000.out) hb); have n5_ := Aside0.mk (Kd.R_below (by (with_reducible repeat (first | apply Kd.R_alloc | apply Kd.R_drewN | apply Kd.R_drew)); exact HO_252001.out) hb); have n6_ := Aside0.mk (Kd.R_below (by (with_reducible repeat (first | apply Kd.R_alloc | apply Kd.R_drewN | apply Kd.R_drew)); exact HO270.out) hb); have n7_ := Aside0.mk (Kd.R_below (by (with_reducible repeat (first | apply Kd.R_alloc | apply Kd.R_drewN | apply Kd.R_drew)); exact HO273.out) hb); have n8_ := Aside0.mk (Kd.R_below (by (with_reducible repeat (first | apply Kd.R_alloc | apply Kd.R_drewN | apply Kd.R_drew)); exact HO276.out) hb); have n9_ := Aside0.mk (Kd.R_below (by (with_reducible repeat (first | apply Kd.R_alloc | apply Kd.R_drewN | apply Kd.R_drew)); exact HO279.out) hb); have n10_ := Aside0.mk (blk_below (g := gb221) (o := .cells #[.slice A0_0 l0_0.length c0_0, .slice A0_1 l0_1.length c0_1] 40 (0, 0)) (by (with_reducible repeat (first | refine blk_drewN ?_ _ | refine blk_drew ?_ | refine blk_alloc ?_ _)); exact BK221.out) hb); have n11_ := Aside0.mk (blk_below (g := gb236) (o := .cells #[.slice Ao25 t229.length co25, .slice Ao28 t232.length co28] 44 (0, 0)) (by (with_reducible repeat (first | refine blk_drewN ?_ _ | refine blk_drew ?_ | refine blk_alloc ?_ _)); exact BK236.out) hb); have n12_ := Aside0.mk (blk_below (g := gb243) (o := .cells #[.slice Ao32 t261.length co32, .slice Ao36 t262.length co36] 44 (0, 0)) (by (with_reducible repeat (first | refine blk_drewN ?_ _ | refine blk_drew ?_ | refine blk_alloc ?_ _)); exact BK243.out) hb); have n13_ := Aside0.mk (blk_below (g := gb251) (o := .cells #[.slice Ao39 t244.length co39, .slice Ao44 t247.length co44] 44 (0, 0)) (by (with_reducible repeat (first | refine blk_drewN ?_ _ | refine blk_drew ?_ | refine blk_alloc ?_ _)); exact BK251.out) hb); have n14_ := Aside0.mk (below_step (by repeat (first | (with_reducible first | exact HB.out | apply below_alloc | apply pw_below_drewN | apply below_drew1 | refine below_set ?_ GE221.out | refine below_set ?_ GE236.out | refine below_set ?_ GE243.out | refine below_set ?_ GE251.out) | exact HB.out)) hb); have n15_ := Aside0.mk (hbox); have n16_ := Aside0.mk ((by rw [hg]; exact (below_size (by repeat (first | (with_reducible first | exact HB.out | apply below_alloc | apply pw_below_drewN | apply below_drew1 | refine below_set ?_ GE221.out | refine below_set ?_ GE236.out | refine below_set ?_ GE243.out | refine below_set ?_ GE251.out) | exact HB.out))) : w.heap.size ≤ gb281)); have n17_ := Aside0.mk ((by rw [hg]; exact (below_size (by repeat (first | (with_reducible first | exact HB.out | apply below_alloc | apply pw_below_drewN | apply below_drew1 | refine below_set ?_ GE221.out | refine below_set ?_ GE236.out | refine below_set ?_ GE243.out | refine below_set ?_ GE251.out) | exact HB.out))) : w.heap.size ≤ gb281)); have n18_ := Aside0.mk ((by rw [hg]; exact Nat.ne_of_lt (blk_lt (g := gb221) (o := .cells #[.slice A0_0 l0_0.length c0_0, .slice A0_1 l0_1.length c0_1] 40 (0, 0)) (by (with_reducible repeat (first | refine blk_drewN ?_ _ | refine blk_drew ?_ | refine blk_alloc ?_ _)); exact BK221.out)) : gb221 ≠ gb281)); have n19_ := Aside0.mk ((by rw [hg]; exact Nat.ne_of_gt (blk_lt (g := gb221) (o := .cells #[.slice A0_0 l0_0.length c0_0, .slice A0_1 l0_1.length c0_1] 40 (0, 0)) (by (with_reducible repeat (first | refine blk_drewN ?_ _ | refine blk_drew ?_ | refine blk_alloc ?_ _)); exact BK221.out)) : gb281 ≠ gb221)); have n20_ := Aside0.mk ((by rw [hg]; exact Nat.ne_of_lt (blk_lt (g := gb236) (o := .cells #[.slice Ao25 t229.length co25, .slice Ao28 t232.length co28] 44 (0, 0)) (by (with_reducible repeat (first | refine blk_drewN ?_ _ | refine blk_drew ?_ | refine blk_alloc ?_ _)); exact BK236.out)) : gb236 ≠ gb281)); have n21_ := Aside0.mk ((by rw [hg]; exact Nat.ne_of_gt (blk_lt (g := gb236) (o := .cells #[.slice Ao25 t229.length co25, .slice Ao28 t232.length co28] 44 (0, 0)) (by (with_reducible repeat (first | refine blk_drewN ?_ _ | refine blk_drew ?_ | refine blk_alloc ?_ _)); exact BK236.out)) : gb281 ≠ gb236)); have n22_ := Aside0.mk ((by rw [hg]; exact Nat.ne_of_lt (blk_lt (g := gb243) (o := .cells #[.slice Ao32 t261.length co32, .slice Ao36 t262.length co36] 44 (0, 0)) (by (with_reducible repeat (first | refine blk_drewN ?_ _ | refine blk_drew ?_ | refine blk_alloc ?_ _)); exact BK243.out)) : gb243 ≠ gb281)); have n23_ := Aside0.mk ((by rw [hg]; exact Nat.ne_of_gt (blk_lt (g := gb243) (o := .cells #[.slice Ao32 t261.length co32, .slice Ao36 t262.length co36] 44 (0, 0)) (by (with_reducible repeat (first | refine blk_drewN ?_ _ | refine blk_drew ?_ | refine blk_alloc ?_ _)); exact BK243.out)) : gb281 ≠ gb243)); have n24_ := Aside0.mk ((by rw [hg]; exact Nat.ne_of_lt (blk_lt (g := gb251) (o := .cells #[.slice Ao39 t244.length co39, .slice Ao44 t247.length co44] 44 (0, 0)) (by (with_reducible repeat (first | refine blk_drewN ?_ _ | refine blk_drew ?_ | refine blk_alloc ?_ _)); exact BK251.out)) : gb251 ≠ gb281)); have n25_ := Aside0.mk ((by rw [hg]; exact Nat.ne_of_gt (blk_lt (g := gb251) (o := .cells #[.slice Ao39 t244.length co39, .slice Ao44 t247.length co44] 44 (0, 0)) (by (with_reducible repeat (first | refine blk_drewN ?_ _ | refine blk_drew ?_ | refine blk_alloc ?_ _)); exact BK251.out)) : gb281 ≠ gb251)); clear HO_237000; clear HO_237001; clear HO_244000; clear HO_244001; clear HO_252000; clear HO_252001; clear HO270; clear HO273; clear HO276; clear HO279; clear BK221; clear BK236; clear BK243; clear BK251; clear HB; have HO_237000 := n0_; have HO_237001 := n1_; have HO_244000 := n2_; have HO_244001 := n3_; have HO_252000 := n4_; have HO_252001 := n5_; have HO270 := n6_; have HO273 := n7_; have HO276 := n8_; have HO279 := n9_; have BK221 := n10_; have BK236 := n11_; have BK243 := n12_; have BK251 := n13_; have HB := n14_; have BK281 := n15_; have GW281 := n16_; have GE281 := n17_; have NB221_281 := n18_; have NB281_221 := n19_; have NB236_281 := n20_; have NB281_236 := n21_; have NB243_281 := n22_; have NB281_243 := n23_; have NB251_281 := n24_; have NB281_251 := n25_; clear n0_ n1_ n2_ n3_ n4_ n5_ n6_ n7_ n8_ n9_ n10_ n11_ n12_ n13_ n14_ n15_ n16_ n17_ n18_ n19_ n20_ n21_ n22_ n23_ n24_ n25_; clear hb hbox hg; obtain ⟨Ao121, co121, eo121⟩ := Kd.R_slice HO276.out; subst eo121; have hnb122 := NB281_221.out; have hnc122 := NB221_281.out; have hnb123 := NB281_236.out; have hnc123 := NB236_281.out; have hnb124 := NB281_243.out; have hnc124 := NB243_281.out; have hnb125 := NB281_251.out; have hnc125 := NB251_281.out; have hcz126_0 : w120.cell? ⟨gb281, 0, none⟩ = some (.slice none 0 0) := (blk_cell BK281.out 0).trans rfl; have hcz126_1 : w120.cell? ⟨gb281, 1, none⟩ = some (.slice none 0 0) := (blk_cell BK281.out 1).trans rfl; have hfz126_0 := blk_frozen BK281.out 0; have hfz126_1 := blk_frozen BK281.out 1; obtain ⟨Ao127, co127, eo127⟩ := Kd.R_slice HO279.out; subst eo127))
                        (try simp only [Act.put, List.setIfInBounds_toArray, List.set_cons_zero, List.set_cons_succ])
                        go_cut [100] (fun v100 wc => ∃ (kq : Nat) (x100_104 : Bool), v100 = .bool x100_104 ∧ Aside0 (laws_FnExactLay.j2 kq t264 x100_104 t265 t266 = some r) ∧ Aside0 (kq ≤ kj67) ∧ Aside0 (Kd.R Kd.string 9 wc w.heap.size (fun k_ => some k_ ≠ ((.slice Ao32 t261.length co32) : Value).ownBlock ∧ some k_ ≠ ((.slice Ao39 t244.length co39) : Value).ownBlock ∧ some k_ ≠ ((.slice Ao121 t274.length co121) : Value).ownBlock) (.slice Ao25 t229.length co25) t229) ∧ Aside0 (Kd.R k65 65 wc w.heap.size (fun k_ => some k_ ≠ ((.slice Ao36 t262.length co36) : Value).ownBlock ∧ some k_ ≠ ((.slice Ao44 t247.length co44) : Value).ownBlock ∧ some k_ ≠ ((.slice Ao127 t277.length co127) : Value).ownBlock) (.slice Ao28 t232.length co28) t232) ∧ Aside0 (Kd.R Kd.string 9 wc w.heap.size (fun k_ => some k_ ≠ ((.slice Ao25 t229.length co25) : Value).ownBlock ∧ some k_ ≠ ((.slice Ao39 t244.length co39) : Value).ownBlock ∧ some k_ ≠ ((.slice Ao121 t274.length co121) : Value).ownBlock) (.slice Ao32 t261.length co32) t261) ∧ Aside0 (Kd.R k65 65 wc w.heap.size (fun k_ => some k_ ≠ ((.slice Ao28 t232.length co28) : Value).ownBlock ∧ some k_ ≠ ((.slice Ao44 t247.length co44) : Value).ownBlock ∧ some k_ ≠ ((.slice Ao127 t277.length co127) : Value).ownBlock) (.slice Ao36 t262.length co36) t262) ∧ Aside0 (Kd.R Kd.string 9 wc w.heap.size (fun k_ => some k_ ≠ ((.slice Ao25 t229.length co25) : Value).ownBlock ∧ some k_ ≠ ((.slice Ao32 t261.length co32) : Value).ownBlock ∧ some k_ ≠ ((.slice Ao121 t274.length co121) : Value).ownBlock) (.slice Ao39 t244.length co39) t265) ∧ Aside0 (Kd.R k65 65 wc w.heap.size (fun k_ => some k_ ≠ ((.slice Ao28 t232.length co28) : Value).ownBlock ∧ some k_ ≠ ((.slice Ao36 t262.length co36) : Value).ownBlock ∧ some k_ ≠ ((.slice Ao127 t277.length co127) : Value).ownBlock) (.slice Ao44 t247.length co44) t266) ∧ Aside0 (Kd.R Kd.string 9 wc w.heap.size (fun k_ => some k_ ≠ ((.slice Ao25 t229.length co25) : Value).ownBlock ∧ some k_ ≠ ((.slice Ao32 t261.length co32) : Value).ownBlock ∧ some k_ ≠ ((.slice Ao39 t244.length co39) : Value).ownBlock) (.slice Ao121 t274.length co121) t274) ∧ Aside0 (Kd.R k65 65 wc w.heap.size (fun k_ => some k_ ≠ ((.slice Ao28 t232.length co28) : Value).ownBlock ∧ some k_ ≠ ((.slice Ao36 t262.length co36) : Value).ownBlock ∧ some k_ ≠ ((.slice Ao44 t247.length co44) : Value).ownBlock) (.slice Ao127 t277.length co127) t277) ∧ Aside0 (wc.heap[gb221]? = some (.cells #[(.slice A0_0 l0_0.length c0_0), (.slice A0_1 l0_1.length c0_1)] 40 (0, 0))) ∧ Aside0 (wc.heap[gb236]? = some (.cells #[(.slice Ao25 t229.length co25), (.slice Ao28 t232.length co28)] 44 (0, 0))) ∧ Aside0 (wc.heap[gb243]? = some (.cells #[(.slice Ao32 t261.length co32), (.slice Ao36 t262.length co36)] 44 (0, 0))) ∧ Aside0 (wc.heap[gb251]? = some (.cells #[(.slice Ao39 t244.length co39), (.slice Ao44 t247.length co44)] 44 (0, 0))) ∧ Aside0 (wc.heap[gb281]? = some (.cells #[(.slice Ao121 t274.length co121), (.slice Ao127 t277.length co127)] 44 (0, 0))) ∧ Aside0 (Below w.heap.size w wc))
                        case first =>
                          have H := HC105.out
                          clear HC105
                          replace H := Option.bind_eq_some_iff.mp H
                          obtain ⟨t282, A1280, H⟩ := H
                          replace H : (if t282 = true then (laws_FnExactLay.j2 kj67 t264 (t280 != t235) t265 t266) else (laws_FnExactLay.j2 kj67 t264 true t265 t266)) = some r := H
                          have A128 := Aside0.mk A1280
                          clear A1280
                          by_cases c129 : t282 = true
                          · subst c129
                            have H1 : (laws_FnExactLay.j2 kj67 t264 (t280 != t235) t265 t266) = some r := by rw [if_pos rfl] at H; exact H
                            clear H
                            have H := H1
                            clear H1
                            have H' := Aside0.mk H
                            clear H
                            have hnb130 := NB281_221.out
                            have hnc130 := NB221_281.out
                            have hnb131 := NB281_236.out
                            have hnc131 := NB236_281.out
                            have hnb132 := NB281_243.out
                            have hnc132 := NB243_281.out
                            have hnb133 := NB281_251.out
                            have hnc133 := NB251_281.out
                            have hcz134_0 : w120.cell? ⟨gb281, 0, none⟩ = some (.slice none 0 0) := (blk_cell BK281.out 0).trans rfl
                            have hcz134_1 : w120.cell? ⟨gb281, 1, none⟩ = some (.slice none 0 0) := (blk_cell BK281.out 1).trans rfl
                            have hfz134_0 := blk_frozen BK281.out 0
                            have hfz134_1 := blk_frozen BK281.out 1
                            have hnb135 := NB236_221.out
                            have hnc135 := NB221_236.out
                            have hnb136 := NB236_243.out
                            have hnc136 := NB243_236.out
                            have hnb137 := NB236_251.out
                            have hnc137 := NB251_236.out
                            have hcz138_0 : w120.cell? ⟨gb236, 0, none⟩ = some (.slice Ao25 t229.length co25) := (blk_cell BK236.out 0).trans rfl
                            have hcz138_1 : w120.cell? ⟨gb236, 1, none⟩ = some (.slice Ao28 t232.length co28) := (blk_cell BK236.out 1).trans rfl
                            have hfz138_0 := blk_frozen BK236.out 0
                            have hfz138_1 := blk_frozen BK236.out 1
                            go_wp2_with (first | ((with_reducible refine gate_callee (f := 18) rfl ?_); refine goesL_ (some 94) rfl rfl Try.func18 (by kernel_rfl) rfl #[.agg #[.slice Ao121 t274.length co121, .slice Ao127 t277.length co127], .agg #[.slice Ao25 t229.length co25, .slice Ao28 t232.length co28]] rfl (by (try simp only [List.map_toArray, List.map_cons, List.map_nil]); first | done | rfl | (simp only [List.length_drop, List.length_take]; rfl)) ?_; (with_reducible refine (laws_eqDevice.calls kj67 _ _ t274 _ _ t277 _ _ t229 _ _ t232 true _ ?side1 ?side2 ?side3 ?side4 ?side5 ?side6 ?side7 ?side8 A128.out).mono ?_); (case side1 => refine (Kd.R_reads' (e := 9) (base := w.heap.size) (ok := fun k_ => ((((True ∧ some k_ ≠ (.slice Ao25 t229.length co25 : Value).ownBlock) ∧ some k_ ≠ (.slice Ao32 t261.length co32 : Value).ownBlock) ∧ some k_ ≠ (.slice Ao39 t244.length co39 : Value).ownBlock) ∧ some k_ ≠ (.slice Ao117 t268.length co117 : Value).ownBlock)) (n := t274.length) (c := co121) ?_).2.2; exact (by (with_reducible repeat (first | apply Kd.R_alloc | apply Kd.R_drewN | apply Kd.R_drew)); exact (Kd.R_mono (Kd.R_far (p := ⟨gb281, 1, none⟩) (Kd.R_far (p := ⟨gb281, 0, none⟩) (Kd.R_types HO276.out BK281.out (by decide)) (fun _ hk => hk.2) (.slice Ao121 t274.length co121)) (fun _ hk => hk.2) (.slice Ao127 t277.length co127)) (fun _ h_ => h_.1)))); (case side2 => exact (Kd.R_reads' HO276.out).2.1); (case side3 => refine (Kd.R_reads' (e := 65) (base := w.heap.size) (ok := fun k_ => ((((True ∧ some k_ ≠ (.slice Ao28 t232.length co28 : Value).ownBlock) ∧ some k_ ≠ (.slice Ao36 t262.length co36 : Value).ownBlock) ∧ some k_ ≠ (.slice Ao44 t247.length co44 : Value).ownBlock) ∧ some k_ ≠ (.slice Ao118 t271.length co118 : Value).ownBlock)) (n := t277.length) (c := co127) ?_).2.2; exact (by (with_reducible repeat (first | apply Kd.R_alloc | apply Kd.R_drewN | apply Kd.R_drew)); exact (Kd.R_mono (Kd.R_far (p := ⟨gb281, 1, none⟩) (Kd.R_far (p := ⟨gb281, 0, none⟩) (Kd.R_types HO279.out BK281.out (by decide)) (fun _ hk => hk.2) (.slice Ao121 t274.length co121)) (fun _ hk => hk.2) (.slice Ao127 t277.length co127)) (fun _ h_ => h_.1)))); (case side4 => exact (Kd.R_reads' HO279.out).2.1); (case side5 => refine (Kd.R_reads' (e := 9) (base := w.heap.size) (ok := fun k_ => (((some k_ ≠ (.slice Ao32 t261.length co32 : Value).ownBlock ∧ some k_ ≠ (.slice Ao39 t244.length co39 : Value).ownBlock) ∧ some k_ ≠ (.slice Ao117 t268.length co117 : Value).ownBlock) ∧ some k_ ≠ (.slice Ao121 t274.length co121 : Value).ownBlock)) (n := t229.length) (c := co25) ?_).2.2; exact (by (with_reducible repeat (first | apply Kd.R_alloc | apply Kd.R_drewN | apply Kd.R_drew)); exact (Kd.R_mono (Kd.R_far (p := ⟨gb281, 1, none⟩) (Kd.R_far (p := ⟨gb281, 0, none⟩) (Kd.R_types HO_237000.out BK281.out (by decide)) (fun _ hk => hk.2) (.slice Ao121 t274.length co121)) (fun _ hk => hk.2) (.slice Ao127 t277.length co127)) (fun _ h_ => h_.1)))); (case side6 => exact (Kd.R_reads' HO_237000.out).2.1); (case side7 => refine (Kd.R_reads' (e := 65) (base := w.heap.size) (ok := fun k_ => (((some k_ ≠ (.slice Ao36 t262.length co36 : Value).ownBlock ∧ some k_ ≠ (.slice Ao44 t247.length co44 : Value).ownBlock) ∧ some k_ ≠ (.slice Ao118 t271.length co118 : Value).ownBlock) ∧ some k_ ≠ (.slice Ao127 t277.length co127 : Value).ownBlock)) (n := t232.length) (c := co28) ?_).2.2; exact (by (with_reducible repeat (first | apply Kd.R_alloc | apply Kd.R_drewN | apply Kd.R_drew)); exact (Kd.R_mono (Kd.R_far (p := ⟨gb281, 1, none⟩) (Kd.R_far (p := ⟨gb281, 0, none⟩) (Kd.R_types HO_237001.out BK281.out (by decide)) (fun _ hk => hk.2) (.slice Ao121 t274.length co121)) (fun _ hk => hk.2) (.slice Ao127 t277.length co127)) (fun _ h_ => h_.1)))); (case side8 => exact (Kd.R_reads' HO_237001.out).2.1); rintro e w139 ⟨rfl, hb⟩; refine ⟨_, rfl, ?_⟩; have n0_ := Aside0.mk (Kd.R_below (by (with_reducible repeat (first | apply Kd.R_alloc | apply Kd.R_drewN | apply Kd.R_drew)); exact (Kd.R_mono (Kd.R_far (p := ⟨gb281, 1, none⟩) (Kd.R_far (p := ⟨gb281, 0, none⟩) (Kd.R_types HO_237000.out BK281.out (by decide)) (fun _ hk => hk.2) (.slice Ao121 t274.length co121)) (fun _ hk => hk.2) (.slice Ao127 t277.length co127)) (fun _ h_ => h_.1))) hb); have n1_ := Aside0.mk (Kd.R_below (by (with_reducible repeat (first | apply Kd.R_alloc | apply Kd.R_drewN | apply Kd.R_drew)); exact (Kd.R_mono (Kd.R_far (p := ⟨gb281, 1, none⟩) (Kd.R_far (p := ⟨gb281, 0, none⟩) (Kd.R_types HO_237001.out BK281.out (by decide)) (fun _ hk => hk.2) (.slice Ao121 t274.length co121)) (fun _ hk => hk.2) (.slice Ao127 t277.length co127)) (fun _ h_ => h_.1))) hb); have n2_ := Aside0.mk (Kd.R_below (by (with_reducible repeat (first | apply Kd.R_alloc | apply Kd.R_drewN | apply Kd.R_drew)); exact (Kd.R_mono (Kd.R_far (p := ⟨gb281, 1, none⟩) (Kd.R_far (p := ⟨gb281, 0, none⟩) (Kd.R_types HO_244000.out BK281.out (by decide)) (fun _ hk => hk.2) (.slice Ao121 t274.length co121)) (fun _ hk => hk.2) (.slice Ao127 t277.length co127)) (fun _ h_ => h_.1))) hb); have n3_ := Aside0.mk (Kd.R_below (by (with_reducible repeat (first | apply Kd.R_alloc | apply Kd.R_drewN | apply Kd.R_drew)); exact (Kd.R_mono (Kd.R_far (p := ⟨gb281, 1, none⟩) (Kd.R_far (p := ⟨gb281, 0, none⟩) (Kd.R_types HO_244001.out BK281.out (by decide)) (fun _ hk => hk.2) (.slice Ao121 t274.length co121)) (fun _ hk => hk.2) (.slice Ao127 t277.length co127)) (fun _ h_ => h_.1))) hb); have n4_ := Aside0.mk (Kd.R_below (by (with_reducible repeat (first | apply Kd.R_alloc | apply Kd.R_drewN | apply Kd.R_drew)); exact (Kd.R_mono (Kd.R_far (p := ⟨gb281, 1, none⟩) (Kd.R_far (p := ⟨gb281, 0, none⟩) (Kd.R_types HO_252000.out BK281.out (by decide)) (fun _ hk => hk.2) (.slice Ao121 t274.length co121)) (fun _ hk => hk.2) (.slice Ao127 t277.length co127)) (fun _ h_ => h_.1))) hb); have n5_ := Aside0.mk (Kd.R_below (by (with_reducible repeat (first | apply Kd.R_alloc | apply Kd.R_drewN | apply Kd.R_drew)); exact (Kd.R_mono (Kd.R_far (p := ⟨gb281, 1, none⟩) (Kd.R_far (p := ⟨gb281, 0, none⟩) (Kd.R_types HO_252001.out BK281.out (by decide)) (fun _ hk => hk.2) (.slice Ao121 t274.length co121)) (fun _ hk => hk.2) (.slice Ao127 t277.length co127)) (fun _ h_ => h_.1))) hb); have n6_ := Aside0.mk (Kd.R_below (by (with_reducible repeat (first | apply Kd.R_alloc | apply Kd.R_drewN | apply Kd.R_drew)); exact (Kd.R_mono (Kd.R_far (p := ⟨gb281, 1, none⟩) (Kd.R_far (p := ⟨gb281, 0, none⟩) (Kd.R_types HO270.out BK281.out (by decide)) (fun _ hk => hk.2) (.slice Ao121 t274.length co121)) (fun _ hk => hk.2) (.slice Ao127 t277.length co127)) (fun _ h_ => h_.1))) hb); have n7_ := Aside0.mk (Kd.R_below (by (with_reducible repeat (first | apply Kd.R_alloc | apply Kd.R_drewN | apply Kd.R_drew)); exact (Kd.R_mono (Kd.R_far (p := ⟨gb281, 1, none⟩) (Kd.R_far (p := ⟨gb281, 0, none⟩) (Kd.R_types HO273.out BK281.out (by decide)) (fun _ hk => hk.2) (.slice Ao121 t274.length co121)) (fun _ hk => hk.2) (.slice Ao127 t277.length co127)) (fun _ h_ => h_.1))) hb); have n8_ := Aside0.mk (Kd.R_below (by (with_reducible repeat (first | apply Kd.R_alloc | apply Kd.R_drewN | apply Kd.R_drew)); exact (Kd.R_mono (Kd.R_far (p := ⟨gb281, 1, none⟩) (Kd.R_far (p := ⟨gb281, 0, none⟩) (Kd.R_types HO276.out BK281.out (by decide)) (fun _ hk => hk.2) (.slice Ao121 t274.length co121)) (fun _ hk => hk.2) (.slice Ao127 t277.length co127)) (fun _ h_ => h_.1))) hb); have n9_ := Aside0.mk (Kd.R_below (by (with_reducible repeat (first | apply Kd.R_alloc | apply Kd.R_drewN | apply Kd.R_drew)); exact (Kd.R_mono (Kd.R_far (p := ⟨gb281, 1, none⟩) (Kd.R_far (p := ⟨gb281, 0, none⟩) (Kd.R_types HO279.out BK281.out (by decide)) (fun _ hk => hk.2) (.slice Ao121 t274.length co121)) (fun _ hk => hk.2) (.slice Ao127 t277.length co127)) (fun _ h_ => h_.1))) hb); have n10_ := Aside0.mk (blk_below (g := gb221) (o := .cells #[.slice A0_0 l0_0.length c0_0, .slice A0_1 l0_1.length c0_1] 40 (0, 0)) (by (with_reducible repeat (first | refine blk_drewN ?_ _ | refine blk_drew ?_ | refine blk_alloc ?_ _)); refine blk_far ?_ NB221_281.out _; (with_reducible repeat (first | refine blk_drewN ?_ _ | refine blk_drew ?_ | refine blk_alloc ?_ _)); refine blk_far ?_ NB221_281.out _; (with_reducible repeat (first | refine blk_drewN ?_ _ | refine blk_drew ?_ | refine blk_alloc ?_ _)); exact BK221.out) hb); have n11_ := Aside0.mk (blk_below (g := gb236) (o := .cells #[.slice Ao25 t229.length co25, .slice Ao28 t232.length co28] 44 (0, 0)) (by (with_reducible repeat (first | refine blk_drewN ?_ _ | refine blk_drew ?_ | refine blk_alloc ?_ _)); refine blk_far ?_ NB236_281.out _; (with_reducible repeat (first | refine blk_drewN ?_ _ | refine blk_drew ?_ | refine blk_alloc ?_ _)); refine blk_far ?_ NB236_281.out _; (with_reducible repeat (first | refine blk_drewN ?_ _ | refine blk_drew ?_ | refine blk_alloc ?_ _)); exact BK236.out) hb); have n12_ := Aside0.mk (blk_below (g := gb243) (o := .cells #[.slice Ao32 t261.length co32, .slice Ao36 t262.length co36] 44 (0, 0)) (by (with_reducible repeat (first | refine blk_drewN ?_ _ | refine blk_drew ?_ | refine blk_alloc ?_ _)); refine blk_far ?_ NB243_281.out _; (with_reducible repeat (first | refine blk_drewN ?_ _ | refine blk_drew ?_ | refine blk_alloc ?_ _)); refine blk_far ?_ NB243_281.out _; (with_reducible repeat (first | refine blk_drewN ?_ _ | refine blk_drew ?_ | refine blk_alloc ?_ _)); exact BK243.out) hb); have n13_ := Aside0.mk (blk_below (g := gb251) (o := .cells #[.slice Ao39 t244.length co39, .slice Ao44 t247.length co44] 44 (0, 0)) (by (with_reducible repeat (first | refine blk_drewN ?_ _ | refine blk_drew ?_ | refine blk_alloc ?_ _)); refine blk_far ?_ NB251_281.out _; (with_reducible repeat (first | refine blk_drewN ?_ _ | refine blk_drew ?_ | refine blk_alloc ?_ _)); refine blk_far ?_ NB251_281.out _; (with_reducible repeat (first | refine blk_drewN ?_ _ | refine blk_drew ?_ | refine blk_alloc ?_ _)); exact BK251.out) hb); have n14_ := Aside0.mk (blk_below (g := gb281) (o := .cells #[.slice Ao121 t274.length co121, .slice Ao127 t277.length co127] 44 (0, 0)) (by (with_reducible repeat (first | refine blk_drewN ?_ _ | refine blk_drew ?_ | refine blk_alloc ?_ _)); refine blk_put (cs := #[.slice Ao121 t274.length co121, .slice none 0 0]) ?_ 1 _ rfl; (with_reducible repeat (first | refine blk_drewN ?_ _ | refine blk_drew ?_ | refine blk_alloc ?_ _)); refine blk_put (cs := #[.slice none 0 0, .slice none 0 0]) ?_ 0 _ rfl; (with_reducible repeat (first | refine blk_drewN ?_ _ | refine blk_drew ?_ | refine blk_alloc ?_ _)); exact BK281.out) hb); have n15_ := Aside0.mk (below_step (by repeat (first | (with_reducible first | exact HB.out | apply below_alloc | apply pw_below_drewN | apply below_drew1 | refine below_set ?_ GE221.out | refine below_set ?_ GE236.out | refine below_set ?_ GE243.out | refine below_set ?_ GE251.out | refine below_set ?_ GE281.out) | exact HB.out)) hb); clear HO_237000; clear HO_237001; clear HO_244000; clear HO_244001; clear HO_252000; clear HO_252001; clear HO270; clear HO273; clear HO276; clear HO279; clear BK221; clear BK236; clear BK243; clear BK251; clear BK281; clear HB; have HO_237000 := n0_; have HO_237001 := n1_; have HO_244000 := n2_; have HO_244001 := n3_; have HO_252000 := n4_; have HO_252001 := n5_; have HO270 := n6_; have HO273 := n7_; have HO276 := n8_; have HO279 := n9_; have BK221 := n10_; have BK236 := n11_; have BK243 := n12_; have BK251 := n13_; have BK281 := n14_; have HB := n15_; clear n0_ n1_ n2_ n3_ n4_ n5_ n6_ n7_ n8_ n9_ n10_ n11_ n12_ n13_ n14_ n15_; (try clear hb); (try clear hb2); (try clear hk); (try clear hi)))
                            go_meet
                            case rel => exact ⟨_, ((t280 != t235)), (by first | rfl | (simp; done) | (simp [*]; done)), H', ⟨by have := HJ14.out; have := HJ67.out; first | omega | exact Nat.le_refl _⟩, ⟨by (try simp only [hl244000_67]); (try simp only [hl244001_67]); (with_reducible repeat (first | apply Kd.R_alloc | apply Kd.R_drewN | apply Kd.R_drew)); exact Kd.R_mono HO_237000.out (fun _ hk => ⟨hk.1.1.1, ⟨hk.1.1.2, hk.2⟩⟩)⟩, ⟨by (try simp only [hl244000_67]); (try simp only [hl244001_67]); (with_reducible repeat (first | apply Kd.R_alloc | apply Kd.R_drewN | apply Kd.R_drew)); exact Kd.R_mono HO_237001.out (fun _ hk => ⟨hk.1.1.1, ⟨hk.1.1.2, hk.2⟩⟩)⟩, ⟨by (try simp only [hl244000_67]); (try simp only [hl244001_67]); (with_reducible repeat (first | apply Kd.R_alloc | apply Kd.R_drewN | apply Kd.R_drew)); exact Kd.R_mono HO_244000.out (fun _ hk => ⟨hk.1.1.1, ⟨hk.1.1.2, hk.2⟩⟩)⟩, ⟨by (try simp only [hl244000_67]); (try simp only [hl244001_67]); (with_reducible repeat (first | apply Kd.R_alloc | apply Kd.R_drewN | apply Kd.R_drew)); exact Kd.R_mono HO_244001.out (fun _ hk => ⟨hk.1.1.1, ⟨hk.1.1.2, hk.2⟩⟩)⟩, ⟨by (try simp only [hl244000_67]); (try simp only [hl244001_67]); (with_reducible repeat (first | apply Kd.R_alloc | apply Kd.R_drewN | apply Kd.R_drew)); exact Kd.R_mono HO_252000.out (fun _ hk => ⟨hk.1.1.1, ⟨hk.1.1.2, hk.2⟩⟩)⟩, ⟨by (try simp only [hl244000_67]); (try simp only [hl244001_67]); (with_reducible repeat (first | apply Kd.R_alloc | apply Kd.R_drewN | apply Kd.R_drew)); exact Kd.R_mono HO_252001.out (fun _ hk => ⟨hk.1.1.1, ⟨hk.1.1.2, hk.2⟩⟩)⟩, ⟨by (try simp only [hl244000_67]); (try simp only [hl244001_67]); (with_reducible repeat (first | apply Kd.R_alloc | apply Kd.R_drewN | apply Kd.R_drew)); exact Kd.R_mono HO276.out (fun _ hk => ⟨hk.1.1.1.2, ⟨hk.1.1.2, hk.1.2⟩⟩)⟩, ⟨by (try simp only [hl244000_67]); (try simp only [hl244001_67]); (with_reducible repeat (first | apply Kd.R_alloc | apply Kd.R_drewN | apply Kd.R_drew)); exact Kd.R_mono HO279.out (fun _ hk => ⟨hk.1.1.1.2, ⟨hk.1.1.2, hk.1.2⟩⟩)⟩, ⟨by (try simp only [hl244000_67]); (try simp only [hl244001_67]); (with_reducible repeat (first | refine blk_drewN ?_ _ | refine blk_drew ?_ | refine blk_alloc ?_ _)); exact BK221.out⟩, ⟨by (try simp only [hl244000_67]); (try simp only [hl244001_67]); (with_reducible repeat (first | refine blk_drewN ?_ _ | refine blk_drew ?_ | refine blk_alloc ?_ _)); exact BK236.out⟩, ⟨by (try simp only [hl244000_67]); (try simp only [hl244001_67]); (with_reducible repeat (first | refine blk_drewN ?_ _ | refine blk_drew ?_ | refine blk_alloc ?_ _)); exact BK243.out⟩, ⟨by (try simp only [hl244000_67]); (try simp only [hl244001_67]); (with_reducible repeat (first | refine blk_drewN ?_ _ | refine blk_drew ?_ | refine blk_alloc ?_ _)); exact BK251.out⟩, ⟨by (try simp only [hl244000_67]); (try simp only [hl244001_67]); (with_reducible repeat (first | refine blk_drewN ?_ _ | refine blk_drew ?_ | refine blk_alloc ?_ _)); exact BK281.out⟩, ⟨by repeat (first | (with_reducible first | exact HB.out | apply below_alloc | apply pw_below_drewN | apply below_drew1 | refine below_set ?_ GE221.out | refine below_set ?_ GE236.out | refine below_set ?_ GE243.out | refine below_set ?_ GE251.out | refine below_set ?_ GE281.out) | exact HB.out)⟩⟩
                          · replace c129 := Bool.eq_false_iff.mpr c129
                            subst c129
                            have H1 : (laws_FnExactLay.j2 kj67 t264 true t265 t266) = some r := by rw [if_neg (show ¬ (false = true) by decide)] at H; exact H
                            clear H
                            have H := H1
                            clear H1
                            have H' := Aside0.mk H
                            clear H
                            have hnb140 := NB281_221.out
                            have hnc140 := NB221_281.out
                            have hnb141 := NB281_236.out
                            have hnc141 := NB236_281.out
                            have hnb142 := NB281_243.out
                            have hnc142 := NB243_281.out
                            have hnb143 := NB281_251.out
                            have hnc143 := NB251_281.out
                            have hcz144_0 : w120.cell? ⟨gb281, 0, none⟩ = some (.slice none 0 0) := (blk_cell BK281.out 0).trans rfl
                            have hcz144_1 : w120.cell? ⟨gb281, 1, none⟩ = some (.slice none 0 0) := (blk_cell BK281.out 1).trans rfl
                            have hfz144_0 := blk_frozen BK281.out 0
                            have hfz144_1 := blk_frozen BK281.out 1
                            have hnb145 := NB236_221.out
                            have hnc145 := NB221_236.out
                            have hnb146 := NB236_243.out
                            have hnc146 := NB243_236.out
                            have hnb147 := NB236_251.out
                            have hnc147 := NB251_236.out
                            have hcz148_0 : w120.cell? ⟨gb236, 0, none⟩ = some (.slice Ao25 t229.length co25) := (blk_cell BK236.out 0).trans rfl
                            have hcz148_1 : w120.cell? ⟨gb236, 1, none⟩ = some (.slice Ao28 t232.length co28) := (blk_cell BK236.out 1).trans rfl
                            have hfz148_0 := blk_frozen BK236.out 0
                            have hfz148_1 := blk_frozen BK236.out 1
                            go_wp2_with (first | ((with_reducible refine gate_callee (f := 18) rfl ?_); refine goesL_ (some 94) rfl rfl Try.func18 (by kernel_rfl) rfl #[.agg #[.slice Ao121 t274.length co121, .slice Ao127 t277.length co127], .agg #[.slice Ao25 t229.length co25, .slice Ao28 t232.length co28]] rfl (by (try simp only [List.map_toArray, List.map_cons, List.map_nil]); first | done | rfl | (simp only [List.length_drop, List.length_take]; rfl)) ?_; (with_reducible refine (laws_eqDevice.calls kj67 _ _ t274 _ _ t277 _ _ t229 _ _ t232 false _ ?side1 ?side2 ?side3 ?side4 ?side5 ?side6 ?side7 ?side8 A128.out).mono ?_); (case side1 => refine (Kd.R_reads' (e := 9) (base := w.heap.size) (ok := fun k_ => ((((True ∧ some k_ ≠ (.slice Ao25 t229.length co25 : Value).ownBlock) ∧ some k_ ≠ (.slice Ao32 t261.length co32 : Value).ownBlock) ∧ some k_ ≠ (.slice Ao39 t244.length co39 : Value).ownBlock) ∧ some k_ ≠ (.slice Ao117 t268.length co117 : Value).ownBlock)) (n := t274.length) (c := co121) ?_).2.2; exact (by (with_reducible repeat (first | apply Kd.R_alloc | apply Kd.R_drewN | apply Kd.R_drew)); exact (Kd.R_mono (Kd.R_far (p := ⟨gb281, 1, none⟩) (Kd.R_far (p := ⟨gb281, 0, none⟩) (Kd.R_types HO276.out BK281.out (by decide)) (fun _ hk => hk.2) (.slice Ao121 t274.length co121)) (fun _ hk => hk.2) (.slice Ao127 t277.length co127)) (fun _ h_ => h_.1)))); (case side2 => exact (Kd.R_reads' HO276.out).2.1); (case side3 => refine (Kd.R_reads' (e := 65) (base := w.heap.size) (ok := fun k_ => ((((True ∧ some k_ ≠ (.slice Ao28 t232.length co28 : Value).ownBlock) ∧ some k_ ≠ (.slice Ao36 t262.length co36 : Value).ownBlock) ∧ some k_ ≠ (.slice Ao44 t247.length co44 : Value).ownBlock) ∧ some k_ ≠ (.slice Ao118 t271.length co118 : Value).ownBlock)) (n := t277.length) (c := co127) ?_).2.2; exact (by (with_reducible repeat (first | apply Kd.R_alloc | apply Kd.R_drewN | apply Kd.R_drew)); exact (Kd.R_mono (Kd.R_far (p := ⟨gb281, 1, none⟩) (Kd.R_far (p := ⟨gb281, 0, none⟩) (Kd.R_types HO279.out BK281.out (by decide)) (fun _ hk => hk.2) (.slice Ao121 t274.length co121)) (fun _ hk => hk.2) (.slice Ao127 t277.length co127)) (fun _ h_ => h_.1)))); (case side4 => exact (Kd.R_reads' HO279.out).2.1); (case side5 => refine (Kd.R_reads' (e := 9) (base := w.heap.size) (ok := fun k_ => (((some k_ ≠ (.slice Ao32 t261.length co32 : Value).ownBlock ∧ some k_ ≠ (.slice Ao39 t244.length co39 : Value).ownBlock) ∧ some k_ ≠ (.slice Ao117 t268.length co117 : Value).ownBlock) ∧ some k_ ≠ (.slice Ao121 t274.length co121 : Value).ownBlock)) (n := t229.length) (c := co25) ?_).2.2; exact (by (with_reducible repeat (first | apply Kd.R_alloc | apply Kd.R_drewN | apply Kd.R_drew)); exact (Kd.R_mono (Kd.R_far (p := ⟨gb281, 1, none⟩) (Kd.R_far (p := ⟨gb281, 0, none⟩) (Kd.R_types HO_237000.out BK281.out (by decide)) (fun _ hk => hk.2) (.slice Ao121 t274.length co121)) (fun _ hk => hk.2) (.slice Ao127 t277.length co127)) (fun _ h_ => h_.1)))); (case side6 => exact (Kd.R_reads' HO_237000.out).2.1); (case side7 => refine (Kd.R_reads' (e := 65) (base := w.heap.size) (ok := fun k_ => (((some k_ ≠ (.slice Ao36 t262.length co36 : Value).ownBlock ∧ some k_ ≠ (.slice Ao44 t247.length co44 : Value).ownBlock) ∧ some k_ ≠ (.slice Ao118 t271.length co118 : Value).ownBlock) ∧ some k_ ≠ (.slice Ao127 t277.length co127 : Value).ownBlock)) (n := t232.length) (c := co28) ?_).2.2; exact (by (with_reducible repeat (first | apply Kd.R_alloc | apply Kd.R_drewN | apply Kd.R_drew)); exact (Kd.R_mono (Kd.R_far (p := ⟨gb281, 1, none⟩) (Kd.R_far (p := ⟨gb281, 0, none⟩) (Kd.R_types HO_237001.out BK281.out (by decide)) (fun _ hk => hk.2) (.slice Ao121 t274.length co121)) (fun _ hk => hk.2) (.slice Ao127 t277.length co127)) (fun _ h_ => h_.1)))); (case side8 => exact (Kd.R_reads' HO_237001.out).2.1); rintro e w149 ⟨rfl, hb⟩; refine ⟨_, rfl, ?_⟩; have n0_ := Aside0.mk (Kd.R_below (by (with_reducible repeat (first | apply Kd.R_alloc | apply Kd.R_drewN | apply Kd.R_drew)); exact (Kd.R_mono (Kd.R_far (p := ⟨gb281, 1, none⟩) (Kd.R_far (p := ⟨gb281, 0, none⟩) (Kd.R_types HO_237000.out BK281.out (by decide)) (fun _ hk => hk.2) (.slice Ao121 t274.length co121)) (fun _ hk => hk.2) (.slice Ao127 t277.length co127)) (fun _ h_ => h_.1))) hb); have n1_ := Aside0.mk (Kd.R_below (by (with_reducible repeat (first | apply Kd.R_alloc | apply Kd.R_drewN | apply Kd.R_drew)); exact (Kd.R_mono (Kd.R_far (p := ⟨gb281, 1, none⟩) (Kd.R_far (p := ⟨gb281, 0, none⟩) (Kd.R_types HO_237001.out BK281.out (by decide)) (fun _ hk => hk.2) (.slice Ao121 t274.length co121)) (fun _ hk => hk.2) (.slice Ao127 t277.length co127)) (fun _ h_ => h_.1))) hb); have n2_ := Aside0.mk (Kd.R_below (by (with_reducible repeat (first | apply Kd.R_alloc | apply Kd.R_drewN | apply Kd.R_drew)); exact (Kd.R_mono (Kd.R_far (p := ⟨gb281, 1, none⟩) (Kd.R_far (p := ⟨gb281, 0, none⟩) (Kd.R_types HO_244000.out BK281.out (by decide)) (fun _ hk => hk.2) (.slice Ao121 t274.length co121)) (fun _ hk => hk.2) (.slice Ao127 t277.length co127)) (fun _ h_ => h_.1))) hb); have n3_ := Aside0.mk (Kd.R_below (by (with_reducible repeat (first | apply Kd.R_alloc | apply Kd.R_drewN | apply Kd.R_drew)); exact (Kd.R_mono (Kd.R_far (p := ⟨gb281, 1, none⟩) (Kd.R_far (p := ⟨gb281, 0, none⟩) (Kd.R_types HO_244001.out BK281.out (by decide)) (fun _ hk => hk.2) (.slice Ao121 t274.length co121)) (fun _ hk => hk.2) (.slice Ao127 t277.length co127)) (fun _ h_ => h_.1))) hb); have n4_ := Aside0.mk (Kd.R_below (by (with_reducible repeat (first | apply Kd.R_alloc | apply Kd.R_drewN | apply Kd.R_drew)); exact (Kd.R_mono (Kd.R_far (p := ⟨gb281, 1, none⟩) (Kd.R_far (p := ⟨gb281, 0, none⟩) (Kd.R_types HO_252000.out BK281.out (by decide)) (fun _ hk => hk.2) (.slice Ao121 t274.length co121)) (fun _ hk => hk.2) (.slice Ao127 t277.length co127)) (fun _ h_ => h_.1))) hb); have n5_ := Aside0.mk (Kd.R_below (by (with_reducible repeat (first | apply Kd.R_alloc | apply Kd.R_drewN | apply Kd.R_drew)); exact (Kd.R_mono (Kd.R_far (p := ⟨gb281, 1, none⟩) (Kd.R_far (p := ⟨gb281, 0, none⟩) (Kd.R_types HO_252001.out BK281.out (by decide)) (fun _ hk => hk.2) (.slice Ao121 t274.length co121)) (fun _ hk => hk.2) (.slice Ao127 t277.length co127)) (fun _ h_ => h_.1))) hb); have n6_ := Aside0.mk (Kd.R_below (by (with_reducible repeat (first | apply Kd.R_alloc | apply Kd.R_drewN | apply Kd.R_drew)); exact (Kd.R_mono (Kd.R_far (p := ⟨gb281, 1, none⟩) (Kd.R_far (p := ⟨gb281, 0, none⟩) (Kd.R_types HO270.out BK281.out (by decide)) (fun _ hk => hk.2) (.slice Ao121 t274.length co121)) (fun _ hk => hk.2) (.slice Ao127 t277.length co127)) (fun _ h_ => h_.1))) hb); have n7_ := Aside0.mk (Kd.R_below (by (with_reducible repeat (first | apply Kd.R_alloc | apply Kd.R_drewN | apply Kd.R_drew)); exact (Kd.R_mono (Kd.R_far (p := ⟨gb281, 1, none⟩) (Kd.R_far (p := ⟨gb281, 0, none⟩) (Kd.R_types HO273.out BK281.out (by decide)) (fun _ hk => hk.2) (.slice Ao121 t274.length co121)) (fun _ hk => hk.2) (.slice Ao127 t277.length co127)) (fun _ h_ => h_.1))) hb); have n8_ := Aside0.mk (Kd.R_below (by (with_reducible repeat (first | apply Kd.R_alloc | apply Kd.R_drewN | apply Kd.R_drew)); exact (Kd.R_mono (Kd.R_far (p := ⟨gb281, 1, none⟩) (Kd.R_far (p := ⟨gb281, 0, none⟩) (Kd.R_types HO276.out BK281.out (by decide)) (fun _ hk => hk.2) (.slice Ao121 t274.length co121)) (fun _ hk => hk.2) (.slice Ao127 t277.length co127)) (fun _ h_ => h_.1))) hb); have n9_ := Aside0.mk (Kd.R_below (by (with_reducible repeat (first | apply Kd.R_alloc | apply Kd.R_drewN | apply Kd.R_drew)); exact (Kd.R_mono (Kd.R_far (p := ⟨gb281, 1, none⟩) (Kd.R_far (p := ⟨gb281, 0, none⟩) (Kd.R_types HO279.out BK281.out (by decide)) (fun _ hk => hk.2) (.slice Ao121 t274.length co121)) (fun _ hk => hk.2) (.slice Ao127 t277.length co127)) (fun _ h_ => h_.1))) hb); have n10_ := Aside0.mk (blk_below (g := gb221) (o := .cells #[.slice A0_0 l0_0.length c0_0, .slice A0_1 l0_1.length c0_1] 40 (0, 0)) (by (with_reducible repeat (first | refine blk_drewN ?_ _ | refine blk_drew ?_ | refine blk_alloc ?_ _)); refine blk_far ?_ NB221_281.out _; (with_reducible repeat (first | refine blk_drewN ?_ _ | refine blk_drew ?_ | refine blk_alloc ?_ _)); refine blk_far ?_ NB221_281.out _; (with_reducible repeat (first | refine blk_drewN ?_ _ | refine blk_drew ?_ | refine blk_alloc ?_ _)); exact BK221.out) hb); have n11_ := Aside0.mk (blk_below (g := gb236) (o := .cells #[.slice Ao25 t229.length co25, .slice Ao28 t232.length co28] 44 (0, 0)) (by (with_reducible repeat (first | refine blk_drewN ?_ _ | refine blk_drew ?_ | refine blk_alloc ?_ _)); refine blk_far ?_ NB236_281.out _; (with_reducible repeat (first | refine blk_drewN ?_ _ | refine blk_drew ?_ | refine blk_alloc ?_ _)); refine blk_far ?_ NB236_281.out _; (with_reducible repeat (first | refine blk_drewN ?_ _ | refine blk_drew ?_ | refine blk_alloc ?_ _)); exact BK236.out) hb); have n12_ := Aside0.mk (blk_below (g := gb243) (o := .cells #[.slice Ao32 t261.length co32, .slice Ao36 t262.length co36] 44 (0, 0)) (by (with_reducible repeat (first | refine blk_drewN ?_ _ | refine blk_drew ?_ | refine blk_alloc ?_ _)); refine blk_far ?_ NB243_281.out _; (with_reducible repeat (first | refine blk_drewN ?_ _ | refine blk_drew ?_ | refine blk_alloc ?_ _)); refine blk_far ?_ NB243_281.out _; (with_reducible repeat (first | refine blk_drewN ?_ _ | refine blk_drew ?_ | refine blk_alloc ?_ _)); exact BK243.out) hb); have n13_ := Aside0.mk (blk_below (g := gb251) (o := .cells #[.slice Ao39 t244.length co39, .slice Ao44 t247.length co44] 44 (0, 0)) (by (with_reducible repeat (first | refine blk_drewN ?_ _ | refine blk_drew ?_ | refine blk_alloc ?_ _)); refine blk_far ?_ NB251_281.out _; (with_reducible repeat (first | refine blk_drewN ?_ _ | refine blk_drew ?_ | refine blk_alloc ?_ _)); refine blk_far ?_ NB251_281.out _; (with_reducible repeat (first | refine blk_drewN ?_ _ | refine blk_drew ?_ | refine blk_alloc ?_ _)); exact BK251.out) hb); have n14_ := Aside0.mk (blk_below (g := gb281) (o := .cells #[.slice Ao121 t274.length co121, .slice Ao127 t277.length co127] 44 (0, 0)) (by (with_reducible repeat (first | refine blk_drewN ?_ _ | refine blk_drew ?_ | refine blk_alloc ?_ _)); refine blk_put (cs := #[.slice Ao121 t274.length co121, .slice none 0 0]) ?_ 1 _ rfl; (with_reducible repeat (first | refine blk_drewN ?_ _ | refine blk_drew ?_ | refine blk_alloc ?_ _)); refine blk_put (cs := #[.slice none 0 0, .slice none 0 0]) ?_ 0 _ rfl; (with_reducible repeat (first | refine blk_drewN ?_ _ | refine blk_drew ?_ | refine blk_alloc ?_ _)); exact BK281.out) hb); have n15_ := Aside0.mk (below_step (by repeat (first | (with_reducible first | exact HB.out | apply below_alloc | apply pw_below_drewN | apply below_drew1 | refine below_set ?_ GE221.out | refine below_set ?_ GE236.out | refine below_set ?_ GE243.out | refine below_set ?_ GE251.out | refine below_set ?_ GE281.out) | exact HB.out)) hb); clear HO_237000; clear HO_237001; clear HO_244000; clear HO_244001; clear HO_252000; clear HO_252001; clear HO270; clear HO273; clear HO276; clear HO279; clear BK221; clear BK236; clear BK243; clear BK251; clear BK281; clear HB; have HO_237000 := n0_; have HO_237001 := n1_; have HO_244000 := n2_; have HO_244001 := n3_; have HO_252000 := n4_; have HO_252001 := n5_; have HO270 := n6_; have HO273 := n7_; have HO276 := n8_; have HO279 := n9_; have BK221 := n10_; have BK236 := n11_; have BK243 := n12_; have BK251 := n13_; have BK281 := n14_; have HB := n15_; clear n0_ n1_ n2_ n3_ n4_ n5_ n6_ n7_ n8_ n9_ n10_ n11_ n12_ n13_ n14_ n15_; (try clear hb); (try clear hb2); (try clear hk); (try clear hi)))
                            go_meet
                            case rel => exact ⟨_, (true), (by first | rfl | (simp; done) | (simp [*]; done)), H', ⟨by have := HJ14.out; have := HJ67.out; first | omega | exact Nat.le_refl _⟩, ⟨by (try simp only [hl244000_67]); (try simp only [hl244001_67]); (with_reducible repeat (first | apply Kd.R_alloc | apply Kd.R_drewN | apply Kd.R_drew)); exact Kd.R_mono HO_237000.out (fun _ hk => ⟨hk.1.1.1, ⟨hk.1.1.2, hk.2⟩⟩)⟩, ⟨by (try simp only [hl244000_67]); (try simp only [hl244001_67]); (with_reducible repeat (first | apply Kd.R_alloc | apply Kd.R_drewN | apply Kd.R_drew)); exact Kd.R_mono HO_237001.out (fun _ hk => ⟨hk.1.1.1, ⟨hk.1.1.2, hk.2⟩⟩)⟩, ⟨by (try simp only [hl244000_67]); (try simp only [hl244001_67]); (with_reducible repeat (first | apply Kd.R_alloc | apply Kd.R_drewN | apply Kd.R_drew)); exact Kd.R_mono HO_244000.out (fun _ hk => ⟨hk.1.1.1, ⟨hk.1.1.2, hk.2⟩⟩)⟩, ⟨by (try simp only [hl244000_67]); (try simp only [hl244001_67]); (with_reducible repeat (first | apply Kd.R_alloc | apply Kd.R_drewN | apply Kd.R_drew)); exact Kd.R_mono HO_244001.out (fun _ hk => ⟨hk.1.1.1, ⟨hk.1.1.2, hk.2⟩⟩)⟩, ⟨by (try simp only [hl244000_67]); (try simp only [hl244001_67]); (with_reducible repeat (first | apply Kd.R_alloc | apply Kd.R_drewN | apply Kd.R_drew)); exact Kd.R_mono HO_252000.out (fun _ hk => ⟨hk.1.1.1, ⟨hk.1.1.2, hk.2⟩⟩)⟩, ⟨by (try simp only [hl244000_67]); (try simp only [hl244001_67]); (with_reducible repeat (first | apply Kd.R_alloc | apply Kd.R_drewN | apply Kd.R_drew)); exact Kd.R_mono HO_252001.out (fun _ hk => ⟨hk.1.1.1, ⟨hk.1.1.2, hk.2⟩⟩)⟩, ⟨by (try simp only [hl244000_67]); (try simp only [hl244001_67]); (with_reducible repeat (first | apply Kd.R_alloc | apply Kd.R_drewN | apply Kd.R_drew)); exact Kd.R_mono HO276.out (fun _ hk => ⟨hk.1.1.1.2, ⟨hk.1.1.2, hk.1.2⟩⟩)⟩, ⟨by (try simp only [hl244000_67]); (try simp only [hl244001_67]); (with_reducible repeat (first | apply Kd.R_alloc | apply Kd.R_drewN | apply Kd.R_drew)); exact Kd.R_mono HO279.out (fun _ hk => ⟨hk.1.1.1.2, ⟨hk.1.1.2, hk.1.2⟩⟩)⟩, ⟨by (try simp only [hl244000_67]); (try simp only [hl244001_67]); (with_reducible repeat (first | refine blk_drewN ?_ _ | refine blk_drew ?_ | refine blk_alloc ?_ _)); exact BK221.out⟩, ⟨by (try simp only [hl244000_67]); (try simp only [hl244001_67]); (with_reducible repeat (first | refine blk_drewN ?_ _ | refine blk_drew ?_ | refine blk_alloc ?_ _)); exact BK236.out⟩, ⟨by (try simp only [hl244000_67]); (try simp only [hl244001_67]); (with_reducible repeat (first | refine blk_drewN ?_ _ | refine blk_drew ?_ | refine blk_alloc ?_ _)); exact BK243.out⟩, ⟨by (try simp only [hl244000_67]); (try simp only [hl244001_67]); (with_reducible repeat (first | refine blk_drewN ?_ _ | refine blk_drew ?_ | refine blk_alloc ?_ _)); exact BK251.out⟩, ⟨by (try simp only [hl244000_67]); (try simp only [hl244001_67]); (with_reducible repeat (first | refine blk_drewN ?_ _ | refine blk_drew ?_ | refine blk_alloc ?_ _)); exact BK281.out⟩, ⟨by repeat (first | (with_reducible first | exact HB.out | apply below_alloc | apply pw_below_drewN | apply below_drew1 | refine below_set ?_ GE221.out | refine below_set ?_ GE236.out | refine below_set ?_ GE243.out | refine below_set ?_ GE251.out | refine below_set ?_ GE281.out) | exact HB.out)⟩⟩
                        case rest =>
                          clear HC105
                          try clear c1
                          try clear c2
                          try clear p2
                          try clear c3
                          try clear c4
                          try clear c4b0
                          try clear c4b1
                          try clear c5
                          try clear c6
                          try clear c7
                          try clear c7b0
                          try clear c8
                          try clear c9
                          try clear c10
                          try clear c11
                          try clear c12
                          try clear c13
                          try clear c14
                          try clear c15
                          try clear c16
                          try clear c17
                          try clear c18
                          try clear c19
                          try clear c20
                          try clear c26
                          try clear c33
                          try clear c34
                          try clear c40
                          try clear c41
                          try clear c42
                          try clear c46
                          try clear c47
                          try clear c48
                          try clear c49
                          try clear c51
                          try clear c52
                          try clear c55
                          try clear c56
                          try clear c57
                          try clear c59
                          try clear c60
                          try clear c63
                          try clear c66
                          try clear c74
                          try clear c75
                          try clear c76
                          try clear c79
                          try clear c79b0
                          try clear c81
                          try clear c82
                          try clear c83
                          try clear c84
                          try clear c86
                          try clear c87
                          try clear c90
                          try clear c91
                          try clear c92
                          try clear c94
                          try clear c95
                          try clear c98
                          try clear c101
                          try clear c101b0
                          try clear c102
                          try clear c102b0
                          try clear c102b1
                          try clear c106
                          try clear c107
                          try clear c108
                          try clear c113
                          try clear c114
                          try clear c122
                          try clear c123
                          try clear c124
                          try clear c125
                          try clear c129
                          try clear c130
                          try clear c131
                          try clear c132
                          try clear c133
                          try clear c135
                          try clear c136
                          try clear c137
                          try clear c140
                          try clear c141
                          try clear c142
                          try clear c143
                          try clear c145
                          try clear c146
                          try clear c147
                          try clear hcz109_0
                          try clear hcz109_1
                          try clear hcz111_0
                          try clear hcz111_1
                          try clear hcz115_0
                          try clear hcz115_1
                          try clear hcz126_0
                          try clear hcz126_1
                          try clear hcz134_0
                          try clear hcz134_1
                          try clear hcz138_0
                          try clear hcz138_1
                          try clear hcz144_0
                          try clear hcz144_1
                          try clear hcz148_0
                          try clear hcz148_1
                          try clear hcz17_0
                          try clear hcz17_1
                          try clear hcz19_0
                          try clear hcz19_1
                          try clear hcz27_0
                          try clear hcz27_1
                          try clear hcz29_0
                          try clear hcz29_1
                          try clear hcz35_0
                          try clear hcz35_1
                          try clear hcz43_0
                          try clear hcz43_1
                          try clear hcz50_0
                          try clear hcz50_1
                          try clear hcz53_0
                          try clear hcz53_1
                          try clear hcz58_0
                          try clear hcz58_1
                          try clear hcz61_0
                          try clear hcz61_1
                          try clear hcz77_0
                          try clear hcz77_1
                          try clear hcz85_0
                          try clear hcz85_1
                          try clear hcz88_0
                          try clear hcz88_1
                          try clear hcz93_0
                          try clear hcz93_1
                          try clear hcz96_0
                          try clear hcz96_1
                          try clear hcz9_0
                          try clear hcz9_1
                          try clear hfz109_0
                          try clear hfz109_1
                          try clear hfz111_0
                          try clear hfz111_1
                          try clear hfz115_0
                          try clear hfz115_1
                          try clear hfz126_0
                          try clear hfz126_1
                          try clear hfz134_0
                          try clear hfz134_1
                          try clear hfz138_0
                          try clear hfz138_1
                          try clear hfz144_0
                          try clear hfz144_1
                          try clear hfz148_0
                          try clear hfz148_1
                          try clear hfz17_0
                          try clear hfz17_1
                          try clear hfz19_0
                          try clear hfz19_1
                          try clear hfz27_0
                          try clear hfz27_1
                          try clear hfz29_0
                          try clear hfz29_1
                          try clear hfz35_0
                          try clear hfz35_1
                          try clear hfz43_0
                          try clear hfz43_1
                          try clear hfz50_0
                          try clear hfz50_1
                          try clear hfz53_0
                          try clear hfz53_1
                          try clear hfz58_0
                          try clear hfz58_1
                          try clear hfz61_0
                          try clear hfz61_1
                          try clear hfz77_0
                          try clear hfz77_1
                          try clear hfz85_0
                          try clear hfz85_1
                          try clear hfz88_0
                          try clear hfz88_1
                          try clear hfz93_0
                          try clear hfz93_1
                          try clear hfz96_0
                          try clear hfz96_1
                          try clear hfz9_0
                          try clear hfz9_1
                          try clear p2
                          obtain ⟨kq, x100_104, rfl, HA, HJ104, HO_237000, HO_237001, HO_244000, HO_244001, HO_252000, HO_252001, HO_282000, HO_282001, BK221, BK236, BK243, BK251, BK281, HB⟩ := hcut
                          have hl252000_104 := (Kd.R_reads' HO_252000.out).1
                          rw [hl252000_104] at HO_252000
                          (try simp only [hl252000_104])
                          (try simp only [hl252000_104] at BK221)
                          (try simp only [hl252000_104] at BK236)
                          (try simp only [hl252000_104] at BK243)
                          (try simp only [hl252000_104] at BK251)
                          (try simp only [hl252000_104] at BK281)
                          (try simp only [hl252000_104] at HO_237000)
                          (try simp only [hl252000_104] at HO_237001)
                          (try simp only [hl252000_104] at HO_244000)
                          (try simp only [hl252000_104] at HO_244001)
                          (try simp only [hl252000_104] at HO_252001)
                          (try simp only [hl252000_104] at HO_282000)
                          (try simp only [hl252000_104] at HO_282001)
                          have hl252001_104 := (Kd.R_reads' HO_252001.out).1
                          rw [hl252001_104] at HO_252001
                          (try simp only [hl252001_104])
                          (try simp only [hl252001_104] at BK221)
                          (try simp only [hl252001_104] at BK236)
                          (try simp only [hl252001_104] at BK243)
                          (try simp only [hl252001_104] at BK251)
                          (try simp only [hl252001_104] at BK281)
                          (try simp only [hl252001_104] at HO_237000)
                          (try simp only [hl252001_104] at HO_237001)
                          (try simp only [hl252001_104] at HO_244000)
                          (try simp only [hl252001_104] at HO_244001)
                          (try simp only [hl252001_104] at HO_252000)
                          (try simp only [hl252001_104] at HO_282000)
                          (try simp only [hl252001_104] at HO_282001)
                          cases kq with
                          | zero => exact absurd HA.out (by simp [laws_FnExactLay.j2])
                          | succ kj104 =>
                            have H := HA.out
                            clear HA
                            simp only [laws_FnExactLay.j2] at H
                            by_cases c150 : x100_104 = true
                            · subst c150
                              have H1 : (some false) = some r := by rw [if_pos rfl] at H; exact H
                              clear H
                              have H := H1
                              clear H1
                              exact absurd ((Option.some.inj H).trans hT.out) (by decide)
                            · replace c150 := Bool.eq_false_iff.mpr c150
                              subst c150
                              have H1 : ((laws_heldDevice.f kj104 t265 t266 1).bind fun t283 => (if t283 < 0 then (some false) else (if t283 = t264 then (some true) else (some false)))) = some r := by rw [if_neg (show ¬ (false = true) by decide)] at H; exact H
                              clear H
                              have H := H1
                              clear H1
                              replace H := Option.bind_eq_some_iff.mp H
                              obtain ⟨t283, A1510, H⟩ := H
                              replace H : (if t283 < 0 then (some false) else (if t283 = t264 then (some true) else (some false))) = some r := H
                              have A151 := Aside0.mk A1510
                              clear A1510
                              by_cases c152 : t283 < 0
                              · rw [if_pos c152] at H
                                have c152b0 : decide (t283 < 0) = true := decide_eq_true c152
                                clear c152
                                exact absurd ((Option.some.inj H).trans hT.out) (by decide)
                              · rw [if_neg c152] at H
                                have c152b0 : decide (t283 < 0) = false := decide_eq_false c152
                                clear c152
                                by_cases c153 : t283 = t264
                                · rw [if_pos c153] at H
                                  have c153b0 : (t283 == t264) = true := beq_iff_eq.mpr c153
                                  have c153b1 : (t283 != t264) = false := bne_eq_false_iff_eq.mpr c153
                                  clear c153
                                  obtain rfl := Option.some.inj H
                                  have hnb154 := NB251_221.out
                                  have hnc154 := NB221_251.out
                                  have hnb155 := NB251_236.out
                                  have hnc155 := NB236_251.out
                                  have hnb156 := NB251_243.out
                                  have hnc156 := NB243_251.out
                                  have hnb157 := NB251_281.out
                                  have hnc157 := NB281_251.out
                                  have hcz158_0 : wc.cell? ⟨gb251, 0, none⟩ = some (.slice Ao39 t265.length co39) := (blk_cell BK251.out 0).trans rfl
                                  have hcz158_1 : wc.cell? ⟨gb251, 1, none⟩ = some (.slice Ao44 t266.length co44) := (blk_cell BK251.out 1).trans rfl
                                  have hfz158_0 := blk_frozen BK251.out 0
                                  have hfz158_1 := blk_frozen BK251.out 1
                                  go_wp2_with (first | ((with_reducible refine gate_callee (f := 20) rfl ?_); refine goesL_ (some 103) rfl rfl Try.func20 (by kernel_rfl) rfl #[.agg #[.slice Ao39 t265.length co39, .slice Ao44 t266.length co44], .int .i64 1] rfl (by (try simp only [List.map_toArray, List.map_cons, List.map_nil]); first | done | rfl | (simp only [List.length_drop, List.length_take]; rfl)) ?_; (with_reducible refine (laws_heldDevice.calls kj104 _ _ t265 _ _ t266 1 t283 _ ?side1 ?side2 ?side3 ?side4 A151.out).mono ?_); (case side1 => repeat (first | exact (Kd.R_reads' HO_252000.out).2.2 | (with_reducible refine Kd.C_alloc ?_ _) | (with_reducible refine Kd.C_drewN ?_ _) | (with_reducible refine Kd.C_drew ?_))); (case side2 => exact (Kd.R_reads' HO_252000.out).2.1); (case side3 => repeat (first | exact (Kd.R_reads' HO_252001.out).2.2 | (with_reducible refine Kd.C_alloc ?_ _) | (with_reducible refine Kd.C_drewN ?_ _) | (with_reducible refine Kd.C_drew ?_))); (case side4 => exact (Kd.R_reads' HO_252001.out).2.1); rintro e w159 ⟨rfl, hb⟩; refine ⟨_, rfl, ?_⟩; have n0_ := Aside0.mk (Kd.R_below (by (with_reducible repeat (first | apply Kd.R_alloc | apply Kd.R_drewN | apply Kd.R_drew)); exact HO_237000.out) hb); have n1_ := Aside0.mk (Kd.R_below (by (with_reducible repeat (first | apply Kd.R_alloc | apply Kd.R_drewN | apply Kd.R_drew)); exact HO_237001.out) hb); have n2_ := Aside0.mk (Kd.R_below (by (with_reducible repeat (first | apply Kd.R_alloc | apply Kd.R_drewN | apply Kd.R_drew)); exact HO_244000.out) hb); have n3_ := Aside0.mk (Kd.R_below (by (with_reducible repeat (first | apply Kd.R_alloc | apply Kd.R_drewN | apply Kd.R_drew)); exact HO_244001.out) hb); have n4_ := Aside0.mk (Kd.R_below (by (with_reducible repeat (first | apply Kd.R_alloc | apply Kd.R_drewN | apply Kd.R_drew)); exact HO_252000.out) hb); have n5_ := Aside0.mk (Kd.R_below (by (with_reducible repeat (first | apply Kd.R_alloc | apply Kd.R_drewN | apply Kd.R_drew)); exact HO_252001.out) hb); have n6_ := Aside0.mk (Kd.R_below (by (with_reducible repeat (first | apply Kd.R_alloc | apply Kd.R_drewN | apply Kd.R_drew)); exact HO_282000.out) hb); have n7_ := Aside0.mk (Kd.R_below (by (with_reducible repeat (first | apply Kd.R_alloc | apply Kd.R_drewN | apply Kd.R_drew)); exact HO_282001.out) hb); have n8_ := Aside0.mk (blk_below (g := gb221) (o := .cells #[.slice A0_0 l0_0.length c0_0, .slice A0_1 l0_1.length c0_1] 40 (0, 0)) (by (with_reducible repeat (first | refine blk_drewN ?_ _ | refine blk_drew ?_ | refine blk_alloc ?_ _)); exact BK221.out) hb); have n9_ := Aside0.mk (blk_below (g := gb236) (o := .cells #[.slice Ao25 t229.length co25, .slice Ao28 t232.length co28] 44 (0, 0)) (by (with_reducible repeat (first | refine blk_drewN ?_ _ | refine blk_drew ?_ | refine blk_alloc ?_ _)); exact BK236.out) hb); have n10_ := Aside0.mk (blk_below (g := gb243) (o := .cells #[.slice Ao32 t261.length co32, .slice Ao36 t262.length co36] 44 (0, 0)) (by (with_reducible repeat (first | refine blk_drewN ?_ _ | refine blk_drew ?_ | refine blk_alloc ?_ _)); exact BK243.out) hb); have n11_ := Aside0.mk (blk_below (g := gb251) (o := .cells #[.slice Ao39 t265.length co39, .slice Ao44 t266.length co44] 44 (0, 0)) (by (with_reducible repeat (first | refine blk_drewN ?_ _ | refine blk_drew ?_ | refine blk_alloc ?_ _)); exact BK251.out) hb); have n12_ := Aside0.mk (blk_below (g := gb281) (o := .cells #[.slice Ao121 t274.length co121, .slice Ao127 t277.length co127] 44 (0, 0)) (by (with_reducible repeat (first | refine blk_drewN ?_ _ | refine blk_drew ?_ | refine blk_alloc ?_ _)); exact BK281.out) hb); have n13_ := Aside0.mk (below_step (by repeat (first | (with_reducible first | exact HB.out | apply below_alloc | apply pw_below_drewN | apply below_drew1 | refine below_set ?_ GE221.out | refine below_set ?_ GE236.out | refine below_set ?_ GE243.out | refine below_set ?_ GE251.out | refine below_set ?_ GE281.out) | exact HB.out)) hb); clear HO_237000; clear HO_237001; clear HO_244000; clear HO_244001; clear HO_252000; clear HO_252001; clear HO_282000; clear HO_282001; clear BK221; clear BK236; clear BK243; clear BK251; clear BK281; clear HB; have HO_237000 := n0_; have HO_237001 := n1_; have HO_244000 := n2_; have HO_244001 := n3_; have HO_252000 := n4_; have HO_252001 := n5_; have HO_282000 := n6_; have HO_282001 := n7_; have BK221 := n8_; have BK236 := n9_; have BK243 := n10_; have BK251 := n11_; have BK281 := n12_; have HB := n13_; clear n0_ n1_ n2_ n3_ n4_ n5_ n6_ n7_ n8_ n9_ n10_ n11_ n12_ n13_; (try clear hb); (try clear hb2); (try clear hk); (try clear hi)))
                                  go_ret
                                  exact ⟨by first | rfl | (simp [errW_none, errW_some] <;> rfl) | (simp [*, errW_none, errW_some] <;> rfl), by repeat (first | (with_reducible first | exact HB.out | apply below_alloc | apply pw_below_drewN | apply below_drew1 | refine below_set ?_ GE221.out | refine below_set ?_ GE236.out | refine below_set ?_ GE243.out | refine below_set ?_ GE251.out | refine below_set ?_ GE281.out) | exact HB.out)⟩
                                · rw [if_neg c153] at H
                                  have c153b0 : (t283 == t264) = false := beq_eq_false_iff_ne.mpr c153
                                  have c153b1 : (t283 != t264) = true := bne_iff_ne.mpr c153
                                  exact absurd ((Option.some.inj H).trans hT.out) (by decide)
                      · rw [if_neg c102] at H
                        have c102b0 : (t267 == t264) = false := beq_eq_false_iff_ne.mpr c102
                        have c102b1 : (t267 != t264) = true := bne_iff_ne.mpr c102
                        exact absurd ((Option.some.inj H).trans hT.out) (by decide)
            · replace c66 := Bool.eq_false_iff.mpr c66
              subst c66
              have H1 : (some false) = some r := by rw [if_neg (show ¬ (false = true) by decide)] at H; exact H
              clear H
              have H := H1
              clear H1
              exact absurd ((Option.some.inj H).trans hT.out) (by decide)

end Go.Proofs.Ytplkhmfoehjaoaa.PFnExactLay
