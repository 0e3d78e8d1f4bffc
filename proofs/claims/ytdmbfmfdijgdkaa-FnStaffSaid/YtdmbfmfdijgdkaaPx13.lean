-- Written by a program of this seat's session (wip/mp.py), over the kit's printer and the session's own contracts; not trusted: Lean checks it.
import Derived.Test.YtdmbfmfdijgdkaaPx0
import Derived.Test.YtdmbfmfdijgdkaaPx3
import Derived.Test.YtdmbfmfdijgdkaaPx5
import Derived.Test.YtdmbfmfdijgdkaaPx6
import Derived.Test.YtdmbfmfdijgdkaaPx7
namespace Go.Proofs.Ytdmbfmfdijgdkaa.Px
open Go.RowKit Go.Proofs.YtdmbfmfdijgdkaaW.PrintWords Go.Proofs.YtdmbfmfdijgdkaaW.PrintLast Go.Proofs.YtdmbfmfdijgdkaaW.PrintMore
attribute [local go_sem] max2_int min2_int max_two min_two max_three min_three max_four min_four   -- for this text's walks alone
set_option linter.unusedVariables false
set_option linter.unusedSimpArgs false

/-! ### laws_FnStaff: function 8 -/
mutual
def laws_FnStaff.j0 : Nat → List (S41) → Int → Int → Int → Bool → Option (Bool)
 | 0, _, _, _, _, _ => none
 | k + 1, x3, x4, x5, x6, x35 => if x35 = true then (some false) else (laws_FnStaff.l0 k x3 x4 x5 x6 1)
def laws_FnStaff.l0 : Nat → List (S41) → Int → Int → Int → Int → Option (Bool)
 | 0, _, _, _, _, _ => none
 | k + 1, x3, x4, x5, x6, x7 => if x7 ≤ 16 then ((impl_Dropped.f k x3 x4 x7).bind fun t445 => ((spec_Dropped.f k x3 x4 x7).bind fun t446 => (if t445 = t446 then (if ((t445 == 0) != (decide (x7 ≥ x6))) = true then (some false) else (laws_FnStaff.l0 k x3 x4 x5 x6 (wrap64 (x7 + 1)))) else (some false)))) else ((impl_MostServed.f k x3 x4 x5).bind fun t447 => ((spec_MostServed.f k x3 x4 x5).bind fun t448 => (if t447 = t448 then ((impl_MostServed.f k x3 x4 x5).bind fun t449 => ((impl_Dropped.f k x3 x4 x5).bind fun t450 => (some (decide (t449 ≥ (wrap64 ((x3.length : Int) - t450))))))) else (some false))))
end
def laws_FnStaff.f (k : Nat) (l0 : List Int) : Option (Bool) := (laws_big.f l0).bind fun t437 => (if t437 = true then (some true) else ((spec_DrawImages.f k l0).bind fun bt438 => ((impl_LeastStaff.f k bt438.1 bt438.2.1).bind fun t443 => ((spec_LeastStaff.f k bt438.1 bt438.2.1).bind fun t444 => (if t443 = t444 then (if t443 < 1 then (laws_FnStaff.j0 k bt438.1 bt438.2.1 bt438.2.2 t443 true) else (laws_FnStaff.j0 k bt438.1 bt438.2.1 bt438.2.2 t443 (decide (t443 > (mx 1 (bt438.1.length : Int)))))) else (laws_FnStaff.j0 k bt438.1 bt438.2.1 bt438.2.2 t443 true))))))
theorem laws_FnStaff.mono_l : ∀ k, (∀ y0 y1 y2 y3 y4, LeO (laws_FnStaff.j0 k y0 y1 y2 y3 y4) (laws_FnStaff.j0 (k + 1) y0 y1 y2 y3 y4)) ∧ (∀ y0 y1 y2 y3 y4, LeO (laws_FnStaff.l0 k y0 y1 y2 y3 y4) (laws_FnStaff.l0 (k + 1) y0 y1 y2 y3 y4))
 | 0 => ⟨fun _ _ _ _ _ r h => by simp [laws_FnStaff.j0] at h, fun _ _ _ _ _ r h => by simp [laws_FnStaff.l0] at h⟩
 | k + 1 => by
  obtain ⟨ih0, ih1⟩ := laws_FnStaff.mono_l k
  refine ⟨?_, ?_⟩
  ·intro y0 y1 y2 y3 y4
   unfold laws_FnStaff.j0
   repeat' first
   | (with_reducible exact ih0 _ _ _ _ _)
   | (with_reducible exact ih1 _ _ _ _ _)
   | (with_reducible exact impl_Dropped.mono _ _ _ _)
   | (with_reducible exact impl_LeastStaff.mono _ _ _)
   | (with_reducible exact impl_MostServed.mono _ _ _ _)
   | (with_reducible exact spec_DrawImages.mono _ _)
   | (with_reducible exact spec_Dropped.mono _ _ _ _)
   | (with_reducible exact spec_LeastStaff.mono _ _ _)
   | (with_reducible exact spec_MostServed.mono _ _ _ _)
   | (with_reducible exact LeO.refl _)
   | (with_reducible exact LeO.none _)
   | (with_reducible refine LeO.ite ?_ ?_)
   | (with_reducible refine LeO.bind ?_ (fun _ => ?_))
   | exact ih0 _ _ _ _ _
   | exact ih1 _ _ _ _ _
   | exact impl_Dropped.mono _ _ _ _
   | exact impl_LeastStaff.mono _ _ _
   | exact impl_MostServed.mono _ _ _ _
   | exact spec_DrawImages.mono _ _
   | exact spec_Dropped.mono _ _ _ _
   | exact spec_LeastStaff.mono _ _ _
   | exact spec_MostServed.mono _ _ _ _
   | exact LeO.none _
   | refine LeO.ite ?_ ?_
   | refine LeO.bind ?_ (fun _ => ?_)
  ·intro y0 y1 y2 y3 y4
   unfold laws_FnStaff.l0
   repeat' first
   | (with_reducible exact ih0 _ _ _ _ _)
   | (with_reducible exact ih1 _ _ _ _ _)
   | (with_reducible exact impl_Dropped.mono _ _ _ _)
   | (with_reducible exact impl_LeastStaff.mono _ _ _)
   | (with_reducible exact impl_MostServed.mono _ _ _ _)
   | (with_reducible exact spec_DrawImages.mono _ _)
   | (with_reducible exact spec_Dropped.mono _ _ _ _)
   | (with_reducible exact spec_LeastStaff.mono _ _ _)
   | (with_reducible exact spec_MostServed.mono _ _ _ _)
   | (with_reducible exact LeO.refl _)
   | (with_reducible exact LeO.none _)
   | (with_reducible refine LeO.ite ?_ ?_)
   | (with_reducible refine LeO.bind ?_ (fun _ => ?_))
   | exact ih0 _ _ _ _ _
   | exact ih1 _ _ _ _ _
   | exact impl_Dropped.mono _ _ _ _
   | exact impl_LeastStaff.mono _ _ _
   | exact impl_MostServed.mono _ _ _ _
   | exact spec_DrawImages.mono _ _
   | exact spec_Dropped.mono _ _ _ _
   | exact spec_LeastStaff.mono _ _ _
   | exact spec_MostServed.mono _ _ _ _
   | exact LeO.none _
   | refine LeO.ite ?_ ?_
   | refine LeO.bind ?_ (fun _ => ?_)
theorem laws_FnStaff.mono : ∀ a0 k, LeO (laws_FnStaff.f k a0) (laws_FnStaff.f (k + 1) a0) := by
 intro a0 k
 obtain ⟨ih0, ih1⟩ := laws_FnStaff.mono_l k
 unfold laws_FnStaff.f
 repeat' first
   | (with_reducible exact ih0 _ _ _ _ _)
   | (with_reducible exact ih1 _ _ _ _ _)
   | (with_reducible exact impl_Dropped.mono _ _ _ _)
   | (with_reducible exact impl_LeastStaff.mono _ _ _)
   | (with_reducible exact impl_MostServed.mono _ _ _ _)
   | (with_reducible exact spec_DrawImages.mono _ _)
   | (with_reducible exact spec_Dropped.mono _ _ _ _)
   | (with_reducible exact spec_LeastStaff.mono _ _ _)
   | (with_reducible exact spec_MostServed.mono _ _ _ _)
   | (with_reducible exact LeO.refl _)
   | (with_reducible exact LeO.none _)
   | (with_reducible refine LeO.ite ?_ ?_)
   | (with_reducible refine LeO.bind ?_ (fun _ => ?_))
   | exact ih0 _ _ _ _ _
   | exact ih1 _ _ _ _ _
   | exact impl_Dropped.mono _ _ _ _
   | exact impl_LeastStaff.mono _ _ _
   | exact impl_MostServed.mono _ _ _ _
   | exact spec_DrawImages.mono _ _
   | exact spec_Dropped.mono _ _ _ _
   | exact spec_LeastStaff.mono _ _ _
   | exact spec_MostServed.mono _ _ _ _
   | exact LeO.none _
   | refine LeO.ite ?_ ?_
   | refine LeO.bind ?_ (fun _ => ?_)
set_option maxHeartbeats 8000000 in
set_option maxRecDepth 100000 in
theorem laws_FnStaff.calls (k : Nat) (A0 : Option Addr) (c0 : Nat) (l0 : List Int) (r : Bool) (w : World) (hr0 : Kd.C (Kd.int .u8) w A0 l0.length l0) (hc0 : l0.length ≤ c0) (hrt : Aside0 (r = true)) (h : laws_FnStaff.f k l0 = some r) :
  Calls Try.prog 8 #[.slice A0 l0.length c0] w fun e w' => e = .returned (.bool r) ∧ Below w.heap.size w w' := by
 have HR0 := Aside0.mk hr0
 have HC0 := Aside0.mk hc0
 clear hr0 hc0
 have HB := Aside0.mk (Below.refl w.heap.size w)
 have H : ((laws_big.f l0).bind fun t437 => (if t437 = true then (some true) else ((spec_DrawImages.f k l0).bind fun bt438 => ((impl_LeastStaff.f k bt438.1 bt438.2.1).bind fun t443 => ((spec_LeastStaff.f k bt438.1 bt438.2.1).bind fun t444 => (if t443 = t444 then (if t443 < 1 then (laws_FnStaff.j0 k bt438.1 bt438.2.1 bt438.2.2 t443 true) else (laws_FnStaff.j0 k bt438.1 bt438.2.1 bt438.2.2 t443 (decide (t443 > (mx 1 (bt438.1.length : Int)))))) else (laws_FnStaff.j0 k bt438.1 bt438.2.1 bt438.2.2 t443 true))))))) = some r := h
 clear h
 replace H := Option.bind_eq_some_iff.mp H
 obtain ⟨t437, A20, H⟩ := H
 replace H : (if t437 = true then (some true) else ((spec_DrawImages.f k l0).bind fun bt438 => ((impl_LeastStaff.f k bt438.1 bt438.2.1).bind fun t443 => ((spec_LeastStaff.f k bt438.1 bt438.2.1).bind fun t444 => (if t443 = t444 then (if t443 < 1 then (laws_FnStaff.j0 k bt438.1 bt438.2.1 bt438.2.2 t443 true) else (laws_FnStaff.j0 k bt438.1 bt438.2.1 bt438.2.2 t443 (decide (t443 > (mx 1 (bt438.1.length : Int)))))) else (laws_FnStaff.j0 k bt438.1 bt438.2.1 bt438.2.2 t443 true)))))) = some r := H
 have A2 := Aside0.mk A20
 clear A20
 by_cases c3 : t437 = true
 ·subst c3
  have H1 : (some true) = some r := by rw [if_pos rfl] at H; exact H
  clear H
  have H := H1
  clear H1
  obtain rfl := Option.some.inj H
  go_enter Try.func8, Try.ntmps8
  go_wp2_with (first | ((with_reducible refine gate_callee (f := 26) rfl ?_); refine goesL_ (some 10) rfl rfl Try.func26 (by kernel_rfl) rfl #[.slice A0 l0.length c0] rfl (by (try simp only [List.map_toArray, List.map_cons, List.map_nil]); first | done | rfl | (simp only [List.length_drop, List.length_take]; rfl)) ?_; (with_reducible refine (laws_big.calls _ _ l0 true _ ?side1 ?side2 A2.out).mono ?_); (case side1 => repeat (first | exact HR0.out | (with_reducible refine Kd.C_alloc ?_ _) | (with_reducible refine Kd.C_drewN ?_ _) | (with_reducible refine Kd.C_drew ?_))); (case side2 => exact HC0.out); rintro e w' ⟨rfl, ⟨nd, rfl⟩⟩; refine ⟨_, rfl, ?_⟩))
  go_ret
  exact ⟨by first | rfl | (simp [errW_none, errW_some] <;> rfl) | (simp [*, errW_none, errW_some] <;> rfl), by repeat (first | (with_reducible first | exact HB.out | apply below_alloc | apply pw_below_drewN | apply below_drew1) | exact HB.out)⟩
 ·replace c3 := Bool.eq_false_iff.mpr c3
  subst c3
  have H1 : ((spec_DrawImages.f k l0).bind fun bt438 => ((impl_LeastStaff.f k bt438.1 bt438.2.1).bind fun t443 => ((spec_LeastStaff.f k bt438.1 bt438.2.1).bind fun t444 => (if t443 = t444 then (if t443 < 1 then (laws_FnStaff.j0 k bt438.1 bt438.2.1 bt438.2.2 t443 true) else (laws_FnStaff.j0 k bt438.1 bt438.2.1 bt438.2.2 t443 (decide (t443 > (mx 1 (bt438.1.length : Int)))))) else (laws_FnStaff.j0 k bt438.1 bt438.2.1 bt438.2.2 t443 true))))) = some r := by rw [if_neg (show ¬ (false = true) by decide)] at H; exact H
  clear H
  have H := H1
  clear H1
  replace H := Option.bind_eq_some_iff.mp H
  obtain ⟨⟨t438, t439, t440⟩, A40, H⟩ := H
  replace H : ((impl_LeastStaff.f k t438 t439).bind fun t443 => ((spec_LeastStaff.f k t438 t439).bind fun t444 => (if t443 = t444 then (if t443 < 1 then (laws_FnStaff.j0 k t438 t439 t440 t443 true) else (laws_FnStaff.j0 k t438 t439 t440 t443 (decide (t443 > (mx 1 (t438.length : Int)))))) else (laws_FnStaff.j0 k t438 t439 t440 t443 true)))) = some r := H
  have A4 := Aside0.mk A40
  clear A40
  replace H := Option.bind_eq_some_iff.mp H
  obtain ⟨t443, A50, H⟩ := H
  replace H : ((spec_LeastStaff.f k t438 t439).bind fun t444 => (if t443 = t444 then (if t443 < 1 then (laws_FnStaff.j0 k t438 t439 t440 t443 true) else (laws_FnStaff.j0 k t438 t439 t440 t443 (decide (t443 > (mx 1 (t438.length : Int)))))) else (laws_FnStaff.j0 k t438 t439 t440 t443 true))) = some r := H
  have A5 := Aside0.mk A50
  clear A50
  have HC6 := Aside0.mk H
  clear H
  go_enter Try.func8, Try.ntmps8
  go_upto_region 5 with (first | ((with_reducible refine gate_callee (f := 26) rfl ?_); refine goesL_ (some 10) rfl rfl Try.func26 (by kernel_rfl) rfl #[.slice A0 l0.length c0] rfl (by (try simp only [List.map_toArray, List.map_cons, List.map_nil]); first | done | rfl | (simp only [List.length_drop, List.length_take]; rfl)) ?_; (with_reducible refine (laws_big.calls _ _ l0 false _ ?side1 ?side2 A2.out).mono ?_); (case side1 => repeat (first | exact HR0.out | (with_reducible refine Kd.C_alloc ?_ _) | (with_reducible refine Kd.C_drewN ?_ _) | (with_reducible refine Kd.C_drew ?_))); (case side2 => exact HC0.out); rintro e w' ⟨rfl, ⟨nd, rfl⟩⟩; refine ⟨_, rfl, ?_⟩) | ((with_reducible refine gate_callee (f := 27) rfl ?_); refine goesL_ (some 13) rfl rfl Try.func27 (by kernel_rfl) rfl #[.slice A0 l0.length c0] rfl (by (try simp only [List.map_toArray, List.map_cons, List.map_nil]); first | done | rfl | (simp only [List.length_drop, List.length_take]; rfl)) ?_; (with_reducible refine (spec_DrawImages.calls k _ _ l0 t438 t439 t440 _ ?side1 ?side2 A4.out).mono ?_); (case side1 => repeat (first | exact HR0.out | (with_reducible refine Kd.C_alloc ?_ _) | (with_reducible refine Kd.C_drewN ?_ _) | (with_reducible refine Kd.C_drew ?_))); (case side2 => exact HC0.out); rintro e w7 ⟨v441, rfl, ho0, hb⟩; refine ⟨_, rfl, ?_⟩; have n0_ := Aside0.mk (Kd.R_lower ho0 (below_size (by repeat (first | (with_reducible first | exact HB.out | apply below_alloc | apply pw_below_drewN | apply below_drew1) | exact HB.out)))); have n1_ := Aside0.mk (below_step (by repeat (first | (with_reducible first | exact HB.out | apply below_alloc | apply pw_below_drewN | apply below_drew1) | exact HB.out)) hb); clear HB; have HO442 := n0_; have HB := n1_; clear n0_ n1_; (try clear hb); (try clear hb2); (try clear hk); (try clear hi); (try clear ho0); obtain ⟨Ao8, co8, eo8⟩ := Kd.R_slice HO442.out; subst eo8) | ((with_reducible refine gate_callee (f := 25) rfl ?_); refine goesL_ (some 19) rfl rfl Try.func25 (by kernel_rfl) rfl #[.slice Ao8 t438.length co8, .int .i64 t439] rfl (by (try simp only [List.map_toArray, List.map_cons, List.map_nil]); first | done | rfl | (simp only [List.length_drop, List.length_take]; rfl)) ?_; (with_reducible refine (impl_LeastStaff.calls k _ _ t438 t439 t443 _ ?side1 ?side2 A5.out).mono ?_); (case side1 => repeat (first | exact (Kd.R_reads' HO442.out).2.2 | (with_reducible refine Kd.C_alloc ?_ _) | (with_reducible refine Kd.C_drewN ?_ _) | (with_reducible refine Kd.C_drew ?_))); (case side2 => exact (Kd.R_reads' HO442.out).2.1); rintro e w9 ⟨rfl, hb⟩; refine ⟨_, rfl, ?_⟩; have n0_ := Aside0.mk (Kd.R_below (by (with_reducible repeat (first | apply Kd.R_alloc | apply Kd.R_drewN | apply Kd.R_drew)); exact HO442.out) hb); have n1_ := Aside0.mk (below_step (by repeat (first | (with_reducible first | exact HB.out | apply below_alloc | apply pw_below_drewN | apply below_drew1) | exact HB.out)) hb); clear HO442; clear HB; have HO442 := n0_; have HB := n1_; clear n0_ n1_; (try clear hb); (try clear hb2); (try clear hk); (try clear hi)))
  (try simp only [Act.put, List.setIfInBounds_toArray, List.set_cons_zero, List.set_cons_succ])
  go_cut [35] (fun v35 wc => ∃ (kq : Nat) (x35_5 : Bool), v35 = .bool x35_5 ∧ Aside0 (laws_FnStaff.j0 kq t438 t439 t440 t443 x35_5 = some r) ∧ Aside0 (kq ≤ k) ∧ Aside0 (Kd.R k41 41 wc w.heap.size (fun _ => True) (.slice Ao8 t438.length co8) t438) ∧ Aside0 (Below w.heap.size w wc))
  case first =>
   have H := HC6.out
   clear HC6
   replace H := Option.bind_eq_some_iff.mp H
   obtain ⟨t444, A100, H⟩ := H
   replace H : (if t443 = t444 then (if t443 < 1 then (laws_FnStaff.j0 k t438 t439 t440 t443 true) else (laws_FnStaff.j0 k t438 t439 t440 t443 (decide (t443 > (mx 1 (t438.length : Int)))))) else (laws_FnStaff.j0 k t438 t439 t440 t443 true)) = some r := H
   have A10 := Aside0.mk A100
   clear A100
   by_cases c11 : t443 = t444
   ·rw [if_pos c11] at H
    have c11b0 : (t443 == t444) = true := beq_iff_eq.mpr c11
    have c11b1 : (t443 != t444) = false := bne_eq_false_iff_eq.mpr c11
    clear c11
    (first | rw [c11b0] | (simp only [i64_w, i32_w]; rw [c11b0]) | skip)
    by_cases c12 : t443 < 1
    ·rw [if_pos c12] at H
     have c12b0 : decide (t443 < 1) = true := decide_eq_true c12
     clear c12
     exact absurd (H.trans (congrArg some hrt.out)) (by cases k <;> simp [laws_FnStaff.j0])
    ·rw [if_neg c12] at H
     have c12b0 : decide (t443 < 1) = false := decide_eq_false c12
     clear c12
     obtain ⟨ji13, hji13⟩ : ∃ j_ : Int, (mx 1 (t438.length : Int)) = j_ := ⟨_, rfl⟩
     replace H : (laws_FnStaff.j0 k t438 t439 t440 t443 (decide (t443 > (ji13)))) = some r := by first | (rw [hji13] at H; exact H) | (simp only [hji13] at H ⊢; exact H)
     (try rw [hji13] at A10)
     (try (have hji13l : 1 ≤ ji13 := by (rw [← hji13]; unfold mx; (repeat' split) <;> omega)))
     (try (have hji13m : 0 ≤ ji13 := by omega))
     have hji13_ : (if 1 < (t438.length : Int) then (t438.length : Int) else 1) = ji13 := hji13
     have H' := Aside0.mk H
     clear H
     go_wp2_with (first | ((with_reducible refine gate_callee (f := 24) rfl ?_); refine goesL_ (some 23) rfl rfl Try.func24 (by kernel_rfl) rfl #[.slice Ao8 t438.length co8, .int .i64 t439] rfl (by (try simp only [List.map_toArray, List.map_cons, List.map_nil]); first | done | rfl | (simp only [List.length_drop, List.length_take]; rfl)) ?_; (with_reducible refine (spec_LeastStaff.calls k _ _ t438 t439 t444 _ ?side1 ?side2 A10.out).mono ?_); (case side1 => repeat (first | exact (Kd.R_reads' HO442.out).2.2 | (with_reducible refine Kd.C_alloc ?_ _) | (with_reducible refine Kd.C_drewN ?_ _) | (with_reducible refine Kd.C_drew ?_))); (case side2 => exact (Kd.R_reads' HO442.out).2.1); rintro e w14 ⟨rfl, hb⟩; refine ⟨_, rfl, ?_⟩; have n0_ := Aside0.mk (Kd.R_below (by (with_reducible repeat (first | apply Kd.R_alloc | apply Kd.R_drewN | apply Kd.R_drew)); exact HO442.out) hb); have n1_ := Aside0.mk (below_step (by repeat (first | (with_reducible first | exact HB.out | apply below_alloc | apply pw_below_drewN | apply below_drew1) | exact HB.out)) hb); clear HO442; clear HB; have HO442 := n0_; have HB := n1_; clear n0_ n1_; (try clear hb); (try clear hb2); (try clear hk); (try clear hi)))
     go_meet
     case rel => exact ⟨_, (decide (t443 > (ji13))), (by first | rfl | (simp; done) | (simp only [← hji13] <;> (first | rfl | simp)) | (simp [*]; done)), H', ⟨by first | omega | exact Nat.le_refl _⟩, ⟨by (with_reducible repeat (first | apply Kd.R_alloc | apply Kd.R_drewN | apply Kd.R_drew)); exact HO442.out⟩, ⟨by repeat (first | (with_reducible first | exact HB.out | apply below_alloc | apply pw_below_drewN | apply below_drew1) | exact HB.out)⟩⟩
   ·rw [if_neg c11] at H
    have c11b0 : (t443 == t444) = false := beq_eq_false_iff_ne.mpr c11
    have c11b1 : (t443 != t444) = true := bne_iff_ne.mpr c11
    (first | rw [c11b0] | (simp only [i64_w, i32_w]; rw [c11b0]) | skip)
    exact absurd (H.trans (congrArg some hrt.out)) (by cases k <;> simp [laws_FnStaff.j0])
  case rest =>
   clear HC6
   try clear c1
   try clear c2
   try clear p2
   try clear c3
   try clear c8
   try clear c11
   try clear c11b0
   try clear c11b1
   try clear c12
   try clear c12b0
   obtain ⟨kq, x35_5, rfl, HA, HJ5, HO_3, HB⟩ := hcut
   cases kq with
   | zero => exact absurd HA.out (by simp [laws_FnStaff.j0])
   | succ kj5 =>
    have H := HA.out
    clear HA
    simp only [laws_FnStaff.j0] at H
    by_cases c15 : x35_5 = true
    ·subst c15
     have H1 : (some false) = some r := by rw [if_pos rfl] at H; exact H
     clear H
     have H := H1
     clear H1
     exact absurd (H.trans (congrArg some hrt.out)) (by simp)
    ·replace c15 := Bool.eq_false_iff.mpr c15
     subst c15
     have H1 : (laws_FnStaff.l0 kj5 t438 t439 t440 t443 1) = some r := by rw [if_neg (show ¬ (false = true) by decide)] at H; exact H
     clear H
     have H := H1
     clear H1
     have H' := Aside0.mk H
     clear H
     go_wp2
     go_loopg [7] kj5 (fun kq v7 w' => ∃ (x7_2 : Int), v7 = .int .i64 x7_2 ∧ Aside0 (laws_FnStaff.l0 kq t438 t439 t440 t443 x7_2 = some r) ∧ Aside0 (kq ≤ kj5) ∧ Aside0 (Kd.R k41 41 w' w.heap.size (fun _ => True) (.slice Ao8 t438.length co8) t438) ∧ Aside0 (Below w.heap.size w w'))
     case atStart => exact ⟨(1), (by first | rfl | (simp; done) | (simp [*]; done)), H', ⟨Nat.le_refl _⟩, ⟨by (with_reducible repeat (first | apply Kd.R_alloc | apply Kd.R_drewN | apply Kd.R_drew)); exact HO_3.out⟩, ⟨by repeat (first | (with_reducible first | exact HB.out | apply below_alloc | apply pw_below_drewN | apply below_drew1) | exact HB.out)⟩⟩
     case round =>
      clear H'
      try clear c1
      try clear c2
      try clear p2
      try clear c3
      try clear c8
      try clear c11
      try clear c11b0
      try clear c11b1
      try clear c12
      try clear c12b0
      try clear c15
      try clear p2
      obtain ⟨x7_2, rfl, HA, HK2, HO_3, HB⟩ := hrel
      cases gk with
      | zero => exact absurd HA.out (by simp [laws_FnStaff.l0])
      | succ k2 =>
       have H := HA.out
       clear HA
       simp only [laws_FnStaff.l0] at H
       by_cases c16 : x7_2 ≤ 16
       ·rw [if_pos c16] at H
        have c16b0 : decide (x7_2 ≤ 16) = true := decide_eq_true c16
        clear c16
        replace H := Option.bind_eq_some_iff.mp H
        obtain ⟨t445, A170, H⟩ := H
        replace H : ((spec_Dropped.f k2 t438 t439 x7_2).bind fun t446 => (if t445 = t446 then (if ((t445 == 0) != (decide (x7_2 ≥ t443))) = true then (some false) else (laws_FnStaff.l0 k2 t438 t439 t440 t443 (wrap64 (x7_2 + 1)))) else (some false))) = some r := H
        have A17 := Aside0.mk A170
        clear A170
        replace H := Option.bind_eq_some_iff.mp H
        obtain ⟨t446, A180, H⟩ := H
        replace H : (if t445 = t446 then (if ((t445 == 0) != (decide (x7_2 ≥ t443))) = true then (some false) else (laws_FnStaff.l0 k2 t438 t439 t440 t443 (wrap64 (x7_2 + 1)))) else (some false)) = some r := H
        have A18 := Aside0.mk A180
        clear A180
        by_cases c19 : t445 = t446
        ·rw [if_pos c19] at H
         have c19b0 : (t445 == t446) = true := beq_iff_eq.mpr c19
         have c19b1 : (t445 != t446) = false := bne_eq_false_iff_eq.mpr c19
         clear c19
         by_cases c20 : ((t445 == 0) != (decide (x7_2 ≥ t443))) = true
         ·rw [if_pos c20] at H
          have c20b0 : ((t445 == 0) != (decide (x7_2 ≥ t443))) = true := c20
          (try (have c20b1 : decide ((t445 == 0) = (decide (x7_2 ≥ t443))) = false := by simpa using c20))
          (try (have c20b2 : ((t445 == 0) == (decide (x7_2 ≥ t443))) = false := by simpa using c20))
          (try (have c20b3 : ¬ ((t445 == 0) = (decide (x7_2 ≥ t443))) := by simpa using c20))
          clear c20
          exact absurd (H.trans (congrArg some hrt.out)) (by simp)
         ·rw [if_neg c20] at H
          have c20b0 : ((t445 == 0) != (decide (x7_2 ≥ t443))) = false := by simpa using c20
          (try (have c20b1 : decide ((t445 == 0) = (decide (x7_2 ≥ t443))) = true := by simpa using c20))
          (try (have c20b2 : ((t445 == 0) == (decide (x7_2 ≥ t443))) = true := by simpa using c20))
          clear c20
          have H' := Aside0.mk H
          clear H
          go_wp2_with (first | ((with_reducible refine gate_callee (f := 16) rfl ?_); refine goesL_ (some 43) rfl rfl Try.func16 (by kernel_rfl) rfl #[.slice Ao8 t438.length co8, .int .i64 t439, .int .i64 x7_2] rfl (by (try simp only [List.map_toArray, List.map_cons, List.map_nil]); first | done | rfl | (simp only [List.length_drop, List.length_take]; rfl)) ?_; (with_reducible refine (impl_Dropped.calls k2 _ _ t438 t439 x7_2 t445 _ ?side1 ?side2 A17.out).mono ?_); (case side1 => repeat (first | exact (Kd.R_reads' HO_3.out).2.2 | (with_reducible refine Kd.C_alloc ?_ _) | (with_reducible refine Kd.C_drewN ?_ _) | (with_reducible refine Kd.C_drew ?_))); (case side2 => exact (Kd.R_reads' HO_3.out).2.1); rintro e w21 ⟨rfl, hb⟩; refine ⟨_, rfl, ?_⟩; have n0_ := Aside0.mk (Kd.R_below (by (with_reducible repeat (first | apply Kd.R_alloc | apply Kd.R_drewN | apply Kd.R_drew)); exact HO_3.out) hb); have n1_ := Aside0.mk (below_step (by repeat (first | (with_reducible first | exact HB.out | apply below_alloc | apply pw_below_drewN | apply below_drew1) | exact HB.out)) hb); clear HO_3; clear HB; have HO_3 := n0_; have HB := n1_; clear n0_ n1_; (try clear hb); (try clear hb2); (try clear hk); (try clear hi)) | ((with_reducible refine gate_callee (f := 14) rfl ?_); refine goesL_ (some 48) rfl rfl Try.func14 (by kernel_rfl) rfl #[.slice Ao8 t438.length co8, .int .i64 t439, .int .i64 x7_2] rfl (by (try simp only [List.map_toArray, List.map_cons, List.map_nil]); first | done | rfl | (simp only [List.length_drop, List.length_take]; rfl)) ?_; (with_reducible refine (spec_Dropped.calls k2 _ _ t438 t439 x7_2 t446 _ ?side1 ?side2 A18.out).mono ?_); (case side1 => repeat (first | exact (Kd.R_reads' HO_3.out).2.2 | (with_reducible refine Kd.C_alloc ?_ _) | (with_reducible refine Kd.C_drewN ?_ _) | (with_reducible refine Kd.C_drew ?_))); (case side2 => exact (Kd.R_reads' HO_3.out).2.1); rintro e w22 ⟨rfl, hb⟩; refine ⟨_, rfl, ?_⟩; have n0_ := Aside0.mk (Kd.R_below (by (with_reducible repeat (first | apply Kd.R_alloc | apply Kd.R_drewN | apply Kd.R_drew)); exact HO_3.out) hb); have n1_ := Aside0.mk (below_step (by repeat (first | (with_reducible first | exact HB.out | apply below_alloc | apply pw_below_drewN | apply below_drew1) | exact HB.out)) hb); clear HO_3; clear HB; have HO_3 := n0_; have HB := n1_; clear n0_ n1_; (try clear hb); (try clear hb2); (try clear hk); (try clear hi)))
          go_roundg k2
          case measure => have := HJ5.out; have := HK2.out; omega
          case rel => exact ⟨(wrap64 (x7_2 + 1)), (by first | rfl | (simp; done) | (simp [*]; done)), H', ⟨by have := HJ5.out; have := HK2.out; omega⟩, ⟨by (with_reducible repeat (first | apply Kd.R_alloc | apply Kd.R_drewN | apply Kd.R_drew)); exact HO_3.out⟩, ⟨by repeat (first | (with_reducible first | exact HB.out | apply below_alloc | apply pw_below_drewN | apply below_drew1) | exact HB.out)⟩⟩
        ·rw [if_neg c19] at H
         have c19b0 : (t445 == t446) = false := beq_eq_false_iff_ne.mpr c19
         have c19b1 : (t445 != t446) = true := bne_iff_ne.mpr c19
         exact absurd (H.trans (congrArg some hrt.out)) (by simp)
       ·rw [if_neg c16] at H
        have c16b0 : decide (x7_2 ≤ 16) = false := decide_eq_false c16
        clear c16
        replace H := Option.bind_eq_some_iff.mp H
        obtain ⟨t447, A230, H⟩ := H
        replace H : ((spec_MostServed.f k2 t438 t439 t440).bind fun t448 => (if t447 = t448 then ((impl_MostServed.f k2 t438 t439 t440).bind fun t449 => ((impl_Dropped.f k2 t438 t439 t440).bind fun t450 => (some (decide (t449 ≥ (wrap64 ((t438.length : Int) - t450))))))) else (some false))) = some r := H
        have A23 := Aside0.mk A230
        clear A230
        replace H := Option.bind_eq_some_iff.mp H
        obtain ⟨t448, A240, H⟩ := H
        replace H : (if t447 = t448 then ((impl_MostServed.f k2 t438 t439 t440).bind fun t449 => ((impl_Dropped.f k2 t438 t439 t440).bind fun t450 => (some (decide (t449 ≥ (wrap64 ((t438.length : Int) - t450))))))) else (some false)) = some r := H
        have A24 := Aside0.mk A240
        clear A240
        by_cases c25 : t447 = t448
        ·rw [if_pos c25] at H
         have c25b0 : (t447 == t448) = true := beq_iff_eq.mpr c25
         have c25b1 : (t447 != t448) = false := bne_eq_false_iff_eq.mpr c25
         clear c25
         replace H := Option.bind_eq_some_iff.mp H
         obtain ⟨t449, A260, H⟩ := H
         replace H : ((impl_Dropped.f k2 t438 t439 t440).bind fun t450 => (some (decide (t449 ≥ (wrap64 ((t438.length : Int) - t450)))))) = some r := H
         have A26 := Aside0.mk A260
         clear A260
         replace H := Option.bind_eq_some_iff.mp H
         obtain ⟨t450, A270, H⟩ := H
         replace H : (some (decide (t449 ≥ (wrap64 ((t438.length : Int) - t450))))) = some r := H
         have A27 := Aside0.mk A270
         clear A270
         obtain rfl := Option.some.inj H
         go_wp2_with (first | ((with_reducible refine gate_callee (f := 32) rfl ?_); refine goesL_ (some 61) rfl rfl Try.func32 (by kernel_rfl) rfl #[.slice Ao8 t438.length co8, .int .i64 t439, .int .i64 t440] rfl (by (try simp only [List.map_toArray, List.map_cons, List.map_nil]); first | done | rfl | (simp only [List.length_drop, List.length_take]; rfl)) ?_; (with_reducible refine (impl_MostServed.calls k2 _ _ t438 t439 t440 t447 _ ?side1 ?side2 A23.out).mono ?_); (case side1 => repeat (first | exact (Kd.R_reads' HO_3.out).2.2 | (with_reducible refine Kd.C_alloc ?_ _) | (with_reducible refine Kd.C_drewN ?_ _) | (with_reducible refine Kd.C_drew ?_))); (case side2 => exact (Kd.R_reads' HO_3.out).2.1); rintro e w28 ⟨rfl, hb⟩; refine ⟨_, rfl, ?_⟩; have n0_ := Aside0.mk (Kd.R_below (by (with_reducible repeat (first | apply Kd.R_alloc | apply Kd.R_drewN | apply Kd.R_drew)); exact HO_3.out) hb); have n1_ := Aside0.mk (below_step (by repeat (first | (with_reducible first | exact HB.out | apply below_alloc | apply pw_below_drewN | apply below_drew1) | exact HB.out)) hb); clear HO_3; clear HB; have HO_3 := n0_; have HB := n1_; clear n0_ n1_; (try clear hb); (try clear hb2); (try clear hk); (try clear hi)) | ((with_reducible refine gate_callee (f := 31) rfl ?_); refine goesL_ (some 65) rfl rfl Try.func31 (by kernel_rfl) rfl #[.slice Ao8 t438.length co8, .int .i64 t439, .int .i64 t440] rfl (by (try simp only [List.map_toArray, List.map_cons, List.map_nil]); first | done | rfl | (simp only [List.length_drop, List.length_take]; rfl)) ?_; (with_reducible refine (spec_MostServed.calls k2 _ _ t438 t439 t440 t448 _ ?side1 ?side2 A24.out).mono ?_); (case side1 => repeat (first | exact (Kd.R_reads' HO_3.out).2.2 | (with_reducible refine Kd.C_alloc ?_ _) | (with_reducible refine Kd.C_drewN ?_ _) | (with_reducible refine Kd.C_drew ?_))); (case side2 => exact (Kd.R_reads' HO_3.out).2.1); rintro e w29 ⟨rfl, hb⟩; refine ⟨_, rfl, ?_⟩; have n0_ := Aside0.mk (Kd.R_below (by (with_reducible repeat (first | apply Kd.R_alloc | apply Kd.R_drewN | apply Kd.R_drew)); exact HO_3.out) hb); have n1_ := Aside0.mk (below_step (by repeat (first | (with_reducible first | exact HB.out | apply below_alloc | apply pw_below_drewN | apply below_drew1) | exact HB.out)) hb); clear HO_3; clear HB; have HO_3 := n0_; have HB := n1_; clear n0_ n1_; (try clear hb); (try clear hb2); (try clear hk); (try clear hi)) | (go_at_call 32; (with_reducible refine (impl_MostServed.calls k2 _ _ t438 t439 t440 t449 _ ?side1 ?side2 A26.out).mono ?_); (case side1 => repeat (first | exact (Kd.R_reads' HO_3.out).2.2 | (with_reducible refine Kd.C_alloc ?_ _) | (with_reducible refine Kd.C_drewN ?_ _) | (with_reducible refine Kd.C_drew ?_))); (case side2 => exact (Kd.R_reads' HO_3.out).2.1); rintro e w30 ⟨rfl, hb⟩; have n0_ := Aside0.mk (Kd.R_below (by (with_reducible repeat (first | apply Kd.R_alloc | apply Kd.R_drewN | apply Kd.R_drew)); exact HO_3.out) hb); have n1_ := Aside0.mk (below_step (by repeat (first | (with_reducible first | exact HB.out | apply below_alloc | apply pw_below_drewN | apply below_drew1) | exact HB.out)) hb); clear HO_3; clear HB; have HO_3 := n0_; have HB := n1_; clear n0_ n1_; (try clear hb); (try clear hb2); (try clear hk); (try clear hi)) | (go_at_call 16; (with_reducible refine (impl_Dropped.calls k2 _ _ t438 t439 t440 t450 _ ?side1 ?side2 A27.out).mono ?_); (case side1 => repeat (first | exact (Kd.R_reads' HO_3.out).2.2 | (with_reducible refine Kd.C_alloc ?_ _) | (with_reducible refine Kd.C_drewN ?_ _) | (with_reducible refine Kd.C_drew ?_))); (case side2 => exact (Kd.R_reads' HO_3.out).2.1); rintro e w31 ⟨rfl, hb⟩; have n0_ := Aside0.mk (Kd.R_below (by (with_reducible repeat (first | apply Kd.R_alloc | apply Kd.R_drewN | apply Kd.R_drew)); exact HO_3.out) hb); have n1_ := Aside0.mk (below_step (by repeat (first | (with_reducible first | exact HB.out | apply below_alloc | apply pw_below_drewN | apply below_drew1) | exact HB.out)) hb); clear HO_3; clear HB; have HO_3 := n0_; have HB := n1_; clear n0_ n1_; (try clear hb); (try clear hb2); (try clear hk); (try clear hi)))
         go_ret
         exact ⟨by first | rfl | (simp [errW_none, errW_some] <;> rfl) | (simp [*, errW_none, errW_some] <;> rfl), by repeat (first | (with_reducible first | exact HB.out | apply below_alloc | apply pw_below_drewN | apply below_drew1) | exact HB.out)⟩
        ·rw [if_neg c25] at H
         have c25b0 : (t447 == t448) = false := beq_eq_false_iff_ne.mpr c25
         have c25b1 : (t447 != t448) = true := bne_iff_ne.mpr c25
         exact absurd (H.trans (congrArg some hrt.out)) (by simp)

end Go.Proofs.Ytdmbfmfdijgdkaa.Px
