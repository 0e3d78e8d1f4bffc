import Derived.Test.YtmjhbdmicejppaaZoPx0
import Derived.Test.YtmjhbdmicejppaaZoPx3
import Derived.Test.YtmjhbdmicejppaaZoPx4
import Derived.Test.YtmjhbdmicejppaaZoPx6
namespace Go.Proofs.Ytmjhbdmicejppaa.Px
open Go.RowKit Go.Proofs.YtmjhbdmicejppaaW.PrintWords Go.Proofs.YtmjhbdmicejppaaW.PrintLast Go.Proofs.YtmjhbdmicejppaaW.PrintMore
attribute [local go_sem] max2_int min2_int max_two min_two max_three min_three max_four min_four   -- for this text's walks alone
set_option linter.unusedVariables false
set_option linter.unusedSimpArgs false

def laws_FnExactMostSorted.f (k : Nat) (l0_0 : List Int) (a0_1 : Int) (l0_2 : List (S95)) (l0_3 : List (S97)) : Option (Bool) := (laws_szLoop.f k l0_0 a0_1 l0_2 l0_3 1048576).bind fun t674 => (if t674 < 0 then (some true) else ((laws_toLoop.f k l0_0 a0_1 l0_2 l0_3).bind fun bt675 => ((spec_MostSorted.f k bt675.1 bt675.2.1 bt675.2.2.1 bt675.2.2.2).bind fun t685 => ((laws_toLoop.f k l0_0 a0_1 l0_2 l0_3).bind fun bt686 => ((impl_MostSorted.f k bt686.1 bt686.2.1 bt686.2.2.1 bt686.2.2.2).bind fun t697 => (if t697 = t685 then ((laws_toLoop.f k l0_0 a0_1 l0_2 l0_3).bind fun bt698 => ((laws_eqLoop.f k bt686.1 bt686.2.1 bt686.2.2.1 bt686.2.2.2 bt698.1 bt698.2.1 bt698.2.2.1 bt698.2.2.2).bind fun t708 => (if t708 = true then (some true) else (some false)))) else (some false)))))))
set_option maxHeartbeats 8000000 in
set_option maxRecDepth 100000 in
theorem laws_FnExactMostSorted.calls (k : Nat) (A0_0 : Option Addr) (c0_0 : Nat) (l0_0 : List Int) (a0_1 : Int) (A0_2 : Option Addr) (c0_2 : Nat) (l0_2 : List (S95)) (A0_3 : Option Addr) (c0_3 : Nat) (l0_3 : List (S97)) (r : Bool) (w : World) (hr0_0 : Kd.C (Kd.int .i64) w A0_0 l0_0.length l0_0) (hc0_0 : l0_0.length ≤ c0_0) (hr0_2 : Kd.C k95 w A0_2 l0_2.length l0_2) (hc0_2 : l0_2.length ≤ c0_2) (hr0_3 : Kd.C k97 w A0_3 l0_3.length l0_3) (hc0_3 : l0_3.length ≤ c0_3) (hrt : Aside0 (r = true)) (h : laws_FnExactMostSorted.f k l0_0 a0_1 l0_2 l0_3 = some r) :
  Calls Try.prog 7 #[.agg #[.slice A0_0 l0_0.length c0_0, .int .i64 a0_1, .slice A0_2 l0_2.length c0_2, .slice A0_3 l0_3.length c0_3]] w fun e w' => e = .returned (.bool r) ∧ Below w.heap.size w w' := by
 have hu43 := Try.underlying43
 have hu28 := Try.underlying28
 have HR0_0 := Aside0.mk hr0_0
 have HC0_0 := Aside0.mk hc0_0
 clear hr0_0 hc0_0
 have HR0_2 := Aside0.mk hr0_2
 have HC0_2 := Aside0.mk hc0_2
 clear hr0_2 hc0_2
 have HR0_3 := Aside0.mk hr0_3
 have HC0_3 := Aside0.mk hc0_3
 clear hr0_3 hc0_3
 have HB := Aside0.mk (Below.refl w.heap.size w)
 have H : ((laws_szLoop.f k l0_0 a0_1 l0_2 l0_3 1048576).bind fun t674 => (if t674 < 0 then (some true) else ((laws_toLoop.f k l0_0 a0_1 l0_2 l0_3).bind fun bt675 => ((spec_MostSorted.f k bt675.1 bt675.2.1 bt675.2.2.1 bt675.2.2.2).bind fun t685 => ((laws_toLoop.f k l0_0 a0_1 l0_2 l0_3).bind fun bt686 => ((impl_MostSorted.f k bt686.1 bt686.2.1 bt686.2.2.1 bt686.2.2.2).bind fun t697 => (if t697 = t685 then ((laws_toLoop.f k l0_0 a0_1 l0_2 l0_3).bind fun bt698 => ((laws_eqLoop.f k bt686.1 bt686.2.1 bt686.2.2.1 bt686.2.2.2 bt698.1 bt698.2.1 bt698.2.2.1 bt698.2.2.2).bind fun t708 => (if t708 = true then (some true) else (some false)))) else (some false)))))))) = some r := h
 clear h
 replace H := Option.bind_eq_some_iff.mp H
 obtain ⟨t674, A20, H⟩ := H
 replace H : (if t674 < 0 then (some true) else ((laws_toLoop.f k l0_0 a0_1 l0_2 l0_3).bind fun bt675 => ((spec_MostSorted.f k bt675.1 bt675.2.1 bt675.2.2.1 bt675.2.2.2).bind fun t685 => ((laws_toLoop.f k l0_0 a0_1 l0_2 l0_3).bind fun bt686 => ((impl_MostSorted.f k bt686.1 bt686.2.1 bt686.2.2.1 bt686.2.2.2).bind fun t697 => (if t697 = t685 then ((laws_toLoop.f k l0_0 a0_1 l0_2 l0_3).bind fun bt698 => ((laws_eqLoop.f k bt686.1 bt686.2.1 bt686.2.2.1 bt686.2.2.2 bt698.1 bt698.2.1 bt698.2.2.1 bt698.2.2.2).bind fun t708 => (if t708 = true then (some true) else (some false)))) else (some false))))))) = some r := H
 have A2 := Aside0.mk A20
 clear A20
 by_cases c3 : t674 < 0
 ·rw [if_pos c3] at H
  have c3b0 : decide (t674 < 0) = true := decide_eq_true c3
  clear c3
  obtain rfl := Option.some.inj H
  go_enter Try.func7, Try.ntmps7
  go_wp2_with (first | ((with_reducible refine gate_dst (N := 1) rfl ?_); refine box_event ?hg (N := 1) ?hd (cs := #[.slice A0_0 l0_0.length c0_0, .int .i64 a0_1, .slice A0_2 l0_2.length c0_2, .slice A0_3 l0_3.length c0_3]) (t := 43) ?hr ?_; (case hd => rfl); (case hg => rfl); (case hr => first | (go_simp; done) | (go_simp; rfl)); intro gb673 hg w4 hbox hb; have n0_ := Aside0.mk (below_step (by repeat (first | (with_reducible first | exact HB.out | apply below_alloc | apply pw_below_drewN | apply below_drew1) | exact HB.out)) hb); have n1_ := Aside0.mk (hbox); have n2_ := Aside0.mk ((by rw [hg]; exact (below_size (by repeat (first | (with_reducible first | exact HB.out | apply below_alloc | apply pw_below_drewN | apply below_drew1) | exact HB.out))) : w.heap.size ≤ gb673)); have n3_ := Aside0.mk ((by rw [hg]; exact (below_size (by repeat (first | (with_reducible first | exact HB.out | apply below_alloc | apply pw_below_drewN | apply below_drew1) | exact HB.out))) : w.heap.size ≤ gb673)); clear HB; have HB := n0_; have BK673 := n1_; have GW673 := n2_; have GE673 := n3_; clear n0_ n1_ n2_ n3_; clear hb hbox hg; have hcz5_0 : w4.cell? ⟨gb673, 0, none⟩ = some (.slice A0_0 l0_0.length c0_0) := (blk_cell BK673.out 0).trans rfl; have hcz5_1 : w4.cell? ⟨gb673, 1, none⟩ = some (.int .i64 a0_1) := (blk_cell BK673.out 1).trans rfl; have hcz5_2 : w4.cell? ⟨gb673, 2, none⟩ = some (.slice A0_2 l0_2.length c0_2) := (blk_cell BK673.out 2).trans rfl; have hcz5_3 : w4.cell? ⟨gb673, 3, none⟩ = some (.slice A0_3 l0_3.length c0_3) := (blk_cell BK673.out 3).trans rfl; have hfz5_0 := blk_frozen BK673.out 0; have hfz5_1 := blk_frozen BK673.out 1; have hfz5_2 := blk_frozen BK673.out 2; have hfz5_3 := blk_frozen BK673.out 3) | ((with_reducible refine gate_callee (f := 31) rfl ?_); refine goesL_ (some 9) rfl rfl Try.func31 (by kernel_rfl) rfl #[.agg #[.slice A0_0 l0_0.length c0_0, .int .i64 a0_1, .slice A0_2 l0_2.length c0_2, .slice A0_3 l0_3.length c0_3], .int .i64 1048576] rfl (by (try simp only [List.map_toArray, List.map_cons, List.map_nil]); first | done | rfl | (simp only [List.length_drop, List.length_take]; rfl)) ?_; (with_reducible refine (laws_szLoop.calls k _ _ l0_0 a0_1 _ _ l0_2 _ _ l0_3 1048576 t674 _ ?side1 ?side2 ?side3 ?side4 ?side5 ?side6 A2.out).mono ?_); (case side1 => repeat (first | exact (Kd.C_below HR0_0.out HB.out) | (with_reducible refine Kd.C_alloc ?_ _) | (with_reducible refine Kd.C_drewN ?_ _) | (with_reducible refine Kd.C_drew ?_))); (case side2 => exact HC0_0.out); (case side3 => repeat (first | exact (Kd.C_below HR0_2.out HB.out) | (with_reducible refine Kd.C_alloc ?_ _) | (with_reducible refine Kd.C_drewN ?_ _) | (with_reducible refine Kd.C_drew ?_))); (case side4 => exact HC0_2.out); (case side5 => repeat (first | exact (Kd.C_below HR0_3.out HB.out) | (with_reducible refine Kd.C_alloc ?_ _) | (with_reducible refine Kd.C_drewN ?_ _) | (with_reducible refine Kd.C_drew ?_))); (case side6 => exact HC0_3.out); rintro e w6 ⟨rfl, hb⟩; refine ⟨_, rfl, ?_⟩; have n0_ := Aside0.mk (blk_below (g := gb673) (o := .cells #[.slice A0_0 l0_0.length c0_0, .int .i64 a0_1, .slice A0_2 l0_2.length c0_2, .slice A0_3 l0_3.length c0_3] 43 (0, 0)) (by (with_reducible repeat (first | refine blk_drewN ?_ _ | refine blk_drew ?_ | refine blk_alloc ?_ _)); exact BK673.out) hb); have n1_ := Aside0.mk (below_step (by repeat (first | (with_reducible first | exact HB.out | apply below_alloc | apply pw_below_drewN | apply below_drew1 | refine below_set ?_ GE673.out) | exact HB.out)) hb); clear BK673; clear HB; have BK673 := n0_; have HB := n1_; clear n0_ n1_; (try clear hb); (try clear hb2); (try clear hk); (try clear hi)))
  go_ret
  exact ⟨by first | rfl | (simp [errW_none, errW_some] <;> rfl) | (simp [*, errW_none, errW_some] <;> rfl), by repeat (first | (with_reducible first | exact HB.out | apply below_alloc | apply pw_below_drewN | apply below_drew1 | refine below_set ?_ GE673.out) | exact HB.out)⟩
 ·rw [if_neg c3] at H
  have c3b0 : decide (t674 < 0) = false := decide_eq_false c3
  clear c3
  replace H := Option.bind_eq_some_iff.mp H
  obtain ⟨⟨t675, t678, t679, t682⟩, A70, H⟩ := H
  replace H : ((spec_MostSorted.f k t675 t678 t679 t682).bind fun t685 => ((laws_toLoop.f k l0_0 a0_1 l0_2 l0_3).bind fun bt686 => ((impl_MostSorted.f k bt686.1 bt686.2.1 bt686.2.2.1 bt686.2.2.2).bind fun t697 => (if t697 = t685 then ((laws_toLoop.f k l0_0 a0_1 l0_2 l0_3).bind fun bt698 => ((laws_eqLoop.f k bt686.1 bt686.2.1 bt686.2.2.1 bt686.2.2.2 bt698.1 bt698.2.1 bt698.2.2.1 bt698.2.2.2).bind fun t708 => (if t708 = true then (some true) else (some false)))) else (some false))))) = some r := H
  have A7 := Aside0.mk A70
  clear A70
  replace H := Option.bind_eq_some_iff.mp H
  obtain ⟨t685, A80, H⟩ := H
  replace H : ((laws_toLoop.f k l0_0 a0_1 l0_2 l0_3).bind fun bt686 => ((impl_MostSorted.f k bt686.1 bt686.2.1 bt686.2.2.1 bt686.2.2.2).bind fun t697 => (if t697 = t685 then ((laws_toLoop.f k l0_0 a0_1 l0_2 l0_3).bind fun bt698 => ((laws_eqLoop.f k bt686.1 bt686.2.1 bt686.2.2.1 bt686.2.2.2 bt698.1 bt698.2.1 bt698.2.2.1 bt698.2.2.2).bind fun t708 => (if t708 = true then (some true) else (some false)))) else (some false)))) = some r := H
  have A8 := Aside0.mk A80
  clear A80
  replace H := Option.bind_eq_some_iff.mp H
  obtain ⟨⟨t686, t689, t690, t693⟩, A90, H⟩ := H
  replace H : ((impl_MostSorted.f k t686 t689 t690 t693).bind fun t697 => (if t697 = t685 then ((laws_toLoop.f k l0_0 a0_1 l0_2 l0_3).bind fun bt698 => ((laws_eqLoop.f k t686 t689 t690 t693 bt698.1 bt698.2.1 bt698.2.2.1 bt698.2.2.2).bind fun t708 => (if t708 = true then (some true) else (some false)))) else (some false))) = some r := H
  have A9 := Aside0.mk A90
  clear A90
  replace H := Option.bind_eq_some_iff.mp H
  obtain ⟨t697, A100, H⟩ := H
  replace H : (if t697 = t685 then ((laws_toLoop.f k l0_0 a0_1 l0_2 l0_3).bind fun bt698 => ((laws_eqLoop.f k t686 t689 t690 t693 bt698.1 bt698.2.1 bt698.2.2.1 bt698.2.2.2).bind fun t708 => (if t708 = true then (some true) else (some false)))) else (some false)) = some r := H
  have A10 := Aside0.mk A100
  clear A100
  by_cases c11 : t697 = t685
  ·rw [if_pos c11] at H
   have c11b0 : (t697 == t685) = true := beq_iff_eq.mpr c11
   have c11b1 : (t697 != t685) = false := bne_eq_false_iff_eq.mpr c11
   clear c11
   replace H := Option.bind_eq_some_iff.mp H
   obtain ⟨⟨t698, t701, t702, t705⟩, A120, H⟩ := H
   replace H : ((laws_eqLoop.f k t686 t689 t690 t693 t698 t701 t702 t705).bind fun t708 => (if t708 = true then (some true) else (some false))) = some r := H
   have A12 := Aside0.mk A120
   clear A120
   replace H := Option.bind_eq_some_iff.mp H
   obtain ⟨t708, A130, H⟩ := H
   replace H : (if t708 = true then (some true) else (some false)) = some r := H
   have A13 := Aside0.mk A130
   clear A130
   by_cases c14 : t708 = true
   ·subst c14
    have H1 : (some true) = some r := by rw [if_pos rfl] at H; exact H
    clear H
    have H := H1
    clear H1
    obtain rfl := Option.some.inj H
    go_enter Try.func7, Try.ntmps7
    try go_wp2_with (first | ((with_reducible refine gate_dst (N := 1) rfl ?_); refine box_event ?hg (N := 1) ?hd (cs := #[.slice A0_0 l0_0.length c0_0, .int .i64 a0_1, .slice A0_2 l0_2.length c0_2, .slice A0_3 l0_3.length c0_3]) (t := 43) ?hr ?_; (case hd => rfl); (case hg => rfl); (case hr => first | (go_simp; done) | (go_simp; rfl)); intro gb673 hg w15 hbox hb; have n0_ := Aside0.mk (below_step (by repeat (first | (with_reducible first | exact HB.out | apply below_alloc | apply pw_below_drewN | apply below_drew1) | exact HB.out)) hb); have n1_ := Aside0.mk (hbox); have n2_ := Aside0.mk ((by rw [hg]; exact (below_size (by repeat (first | (with_reducible first | exact HB.out | apply below_alloc | apply pw_below_drewN | apply below_drew1) | exact HB.out))) : w.heap.size ≤ gb673)); have n3_ := Aside0.mk ((by rw [hg]; exact (below_size (by repeat (first | (with_reducible first | exact HB.out | apply below_alloc | apply pw_below_drewN | apply below_drew1) | exact HB.out))) : w.heap.size ≤ gb673)); clear HB; have HB := n0_; have BK673 := n1_; have GW673 := n2_; have GE673 := n3_; clear n0_ n1_ n2_ n3_; clear hb hbox hg; have hcz16_0 : w15.cell? ⟨gb673, 0, none⟩ = some (.slice A0_0 l0_0.length c0_0) := (blk_cell BK673.out 0).trans rfl; have hcz16_1 : w15.cell? ⟨gb673, 1, none⟩ = some (.int .i64 a0_1) := (blk_cell BK673.out 1).trans rfl; have hcz16_2 : w15.cell? ⟨gb673, 2, none⟩ = some (.slice A0_2 l0_2.length c0_2) := (blk_cell BK673.out 2).trans rfl; have hcz16_3 : w15.cell? ⟨gb673, 3, none⟩ = some (.slice A0_3 l0_3.length c0_3) := (blk_cell BK673.out 3).trans rfl; have hfz16_0 := blk_frozen BK673.out 0; have hfz16_1 := blk_frozen BK673.out 1; have hfz16_2 := blk_frozen BK673.out 2; have hfz16_3 := blk_frozen BK673.out 3) | ((with_reducible refine gate_callee (f := 31) rfl ?_); refine goesL_ (some 9) rfl rfl Try.func31 (by kernel_rfl) rfl #[.agg #[.slice A0_0 l0_0.length c0_0, .int .i64 a0_1, .slice A0_2 l0_2.length c0_2, .slice A0_3 l0_3.length c0_3], .int .i64 1048576] rfl (by (try simp only [List.map_toArray, List.map_cons, List.map_nil]); first | done | rfl | (simp only [List.length_drop, List.length_take]; rfl)) ?_; (with_reducible refine (laws_szLoop.calls k _ _ l0_0 a0_1 _ _ l0_2 _ _ l0_3 1048576 t674 _ ?side1 ?side2 ?side3 ?side4 ?side5 ?side6 A2.out).mono ?_); (case side1 => repeat (first | exact (Kd.C_below HR0_0.out HB.out) | (with_reducible refine Kd.C_alloc ?_ _) | (with_reducible refine Kd.C_drewN ?_ _) | (with_reducible refine Kd.C_drew ?_))); (case side2 => exact HC0_0.out); (case side3 => repeat (first | exact (Kd.C_below HR0_2.out HB.out) | (with_reducible refine Kd.C_alloc ?_ _) | (with_reducible refine Kd.C_drewN ?_ _) | (with_reducible refine Kd.C_drew ?_))); (case side4 => exact HC0_2.out); (case side5 => repeat (first | exact (Kd.C_below HR0_3.out HB.out) | (with_reducible refine Kd.C_alloc ?_ _) | (with_reducible refine Kd.C_drewN ?_ _) | (with_reducible refine Kd.C_drew ?_))); (case side6 => exact HC0_3.out); rintro e w17 ⟨rfl, hb⟩; refine ⟨_, rfl, ?_⟩; have n0_ := Aside0.mk (blk_below (g := gb673) (o := .cells #[.slice A0_0 l0_0.length c0_0, .int .i64 a0_1, .slice A0_2 l0_2.length c0_2, .slice A0_3 l0_3.length c0_3] 43 (0, 0)) (by (with_reducible repeat (first | refine blk_drewN ?_ _ | refine blk_drew ?_ | refine blk_alloc ?_ _)); exact BK673.out) hb); have n1_ := Aside0.mk (below_step (by repeat (first | (with_reducible first | exact HB.out | apply below_alloc | apply pw_below_drewN | apply below_drew1 | refine below_set ?_ GE673.out) | exact HB.out)) hb); clear BK673; clear HB; have BK673 := n0_; have HB := n1_; clear n0_ n1_; (try clear hb); (try clear hb2); (try clear hk); (try clear hi); have hcz18_0 : w17.cell? ⟨gb673, 0, none⟩ = some (.slice A0_0 l0_0.length c0_0) := (blk_cell BK673.out 0).trans rfl; have hcz18_1 : w17.cell? ⟨gb673, 1, none⟩ = some (.int .i64 a0_1) := (blk_cell BK673.out 1).trans rfl; have hcz18_2 : w17.cell? ⟨gb673, 2, none⟩ = some (.slice A0_2 l0_2.length c0_2) := (blk_cell BK673.out 2).trans rfl; have hcz18_3 : w17.cell? ⟨gb673, 3, none⟩ = some (.slice A0_3 l0_3.length c0_3) := (blk_cell BK673.out 3).trans rfl; have hfz18_0 := blk_frozen BK673.out 0; have hfz18_1 := blk_frozen BK673.out 1; have hfz18_2 := blk_frozen BK673.out 2; have hfz18_3 := blk_frozen BK673.out 3) | ((with_reducible refine gate_callee (f := 32) rfl ?_); refine goesL_ (some 13) rfl rfl Try.func32 (by kernel_rfl) rfl #[.agg #[.slice A0_0 l0_0.length c0_0, .int .i64 a0_1, .slice A0_2 l0_2.length c0_2, .slice A0_3 l0_3.length c0_3]] rfl (by (try simp only [List.map_toArray, List.map_cons, List.map_nil]); first | done | rfl | (simp only [List.length_drop, List.length_take]; rfl)) ?_; (with_reducible refine (laws_toLoop.calls k _ _ l0_0 a0_1 _ _ l0_2 _ _ l0_3 t675 t678 t679 t682 _ ?side1 ?side2 ?side3 ?side4 ?side5 ?side6 A7.out).mono ?_); (case side1 => repeat (first | exact (Kd.C_below HR0_0.out HB.out) | (with_reducible refine Kd.C_alloc ?_ _) | (with_reducible refine Kd.C_drewN ?_ _) | (with_reducible refine Kd.C_drew ?_))); (case side2 => exact HC0_0.out); (case side3 => repeat (first | exact (Kd.C_below HR0_2.out HB.out) | (with_reducible refine Kd.C_alloc ?_ _) | (with_reducible refine Kd.C_drewN ?_ _) | (with_reducible refine Kd.C_drew ?_))); (case side4 => exact HC0_2.out); (case side5 => repeat (first | exact (Kd.C_below HR0_3.out HB.out) | (with_reducible refine Kd.C_alloc ?_ _) | (with_reducible refine Kd.C_drewN ?_ _) | (with_reducible refine Kd.C_drew ?_))); (case side6 => exact HC0_3.out); rintro e w19 ⟨v676, v680, v683, rfl, ho0, ho1, ho2, hb⟩; refine ⟨_, rfl, ?_⟩; have n0_ := Aside0.mk (Kd.R_lower ho0 (below_size (by repeat (first | (with_reducible first | exact HB.out | apply below_alloc | apply pw_below_drewN | apply below_drew1 | refine below_set ?_ GE673.out) | exact HB.out)))); have n1_ := Aside0.mk (Kd.S_lower ho1 (below_size (by repeat (first | (with_reducible first | exact HB.out | apply below_alloc | apply pw_below_drewN | apply below_drew1 | refine below_set ?_ GE673.out) | exact HB.out)))); have n2_ := Aside0.mk (Kd.S_lower ho2 (below_size (by repeat (first | (with_reducible first | exact HB.out | apply below_alloc | apply pw_below_drewN | apply below_drew1 | refine below_set ?_ GE673.out) | exact HB.out)))); have n3_ := Aside0.mk (blk_below (g := gb673) (o := .cells #[.slice A0_0 l0_0.length c0_0, .int .i64 a0_1, .slice A0_2 l0_2.length c0_2, .slice A0_3 l0_3.length c0_3] 43 (0, 0)) (by (with_reducible repeat (first | refine blk_drewN ?_ _ | refine blk_drew ?_ | refine blk_alloc ?_ _)); exact BK673.out) hb); have n4_ := Aside0.mk (below_step (by repeat (first | (with_reducible first | exact HB.out | apply below_alloc | apply pw_below_drewN | apply below_drew1 | refine below_set ?_ GE673.out) | exact HB.out)) hb); clear BK673; clear HB; have HO677 := n0_; have HO681 := n1_; have HO684 := n2_; have BK673 := n3_; have HB := n4_; clear n0_ n1_ n2_ n3_ n4_; (try clear hb); (try clear hb2); (try clear hk); (try clear hi); (try clear ho0); (try clear ho1); (try clear ho2); obtain ⟨Ao20, co20, eo20⟩ := Kd.R_slice HO677.out; subst eo20; obtain ⟨Ao21, co21, eo21⟩ := Kd.S_slice HO681.out; subst eo21; obtain ⟨Ao22, co22, eo22⟩ := Kd.S_slice HO684.out; subst eo22) | ((with_reducible refine gate_callee (f := 22) rfl ?_); refine goesL_ (some 14) rfl rfl Try.func22 (by kernel_rfl) rfl #[.agg #[.slice Ao20 t675.length co20, .int .i64 t678, .slice Ao21 t679.length co21, .slice Ao22 t682.length co22]] rfl (by (try simp only [List.map_toArray, List.map_cons, List.map_nil]); first | done | rfl | (simp only [List.length_drop, List.length_take]; rfl)) ?_; (with_reducible refine (spec_MostSorted.calls k _ _ t675 t678 _ _ t679 _ _ t682 t685 _ ?side1 ?side2 ?side3 ?side4 ?side5 ?side6 A8.out).mono ?_); (case side1 => repeat (first | exact (Kd.R_reads' HO677.out).2.2 | (with_reducible refine Kd.C_alloc ?_ _) | (with_reducible refine Kd.C_drewN ?_ _) | (with_reducible refine Kd.C_drew ?_))); (case side2 => exact (Kd.R_reads' HO677.out).2.1); (case side3 => repeat (first | exact (Kd.S_reads' HO681.out).2.2 | (with_reducible refine Kd.C_alloc ?_ _) | (with_reducible refine Kd.C_drewN ?_ _) | (with_reducible refine Kd.C_drew ?_))); (case side4 => exact (Kd.S_reads' HO681.out).2.1); (case side5 => repeat (first | exact (Kd.S_reads' HO684.out).2.2 | (with_reducible refine Kd.C_alloc ?_ _) | (with_reducible refine Kd.C_drewN ?_ _) | (with_reducible refine Kd.C_drew ?_))); (case side6 => exact (Kd.S_reads' HO684.out).2.1); rintro e w23 ⟨rfl, hb⟩; refine ⟨_, rfl, ?_⟩; have n0_ := Aside0.mk (Kd.R_below (by (with_reducible repeat (first | apply Kd.R_alloc | apply Kd.R_drewN | apply Kd.R_drew)); exact HO677.out) hb); have n1_ := Aside0.mk (Kd.S_below (by (with_reducible repeat (first | apply Kd.S_alloc | apply Kd.S_drewN | apply Kd.S_drew)); exact HO681.out) hb); have n2_ := Aside0.mk (Kd.S_below (by (with_reducible repeat (first | apply Kd.S_alloc | apply Kd.S_drewN | apply Kd.S_drew)); exact HO684.out) hb); have n3_ := Aside0.mk (blk_below (g := gb673) (o := .cells #[.slice A0_0 l0_0.length c0_0, .int .i64 a0_1, .slice A0_2 l0_2.length c0_2, .slice A0_3 l0_3.length c0_3] 43 (0, 0)) (by (with_reducible repeat (first | refine blk_drewN ?_ _ | refine blk_drew ?_ | refine blk_alloc ?_ _)); exact BK673.out) hb); have n4_ := Aside0.mk (below_step (by repeat (first | (with_reducible first | exact HB.out | apply below_alloc | apply pw_below_drewN | apply below_drew1 | refine below_set ?_ GE673.out) | exact HB.out)) hb); clear HO677; clear HO681; clear HO684; clear BK673; clear HB; have HO677 := n0_; have HO681 := n1_; have HO684 := n2_; have BK673 := n3_; have HB := n4_; clear n0_ n1_ n2_ n3_ n4_; (try clear hb); (try clear hb2); (try clear hk); (try clear hi); have hcz24_0 : w23.cell? ⟨gb673, 0, none⟩ = some (.slice A0_0 l0_0.length c0_0) := (blk_cell BK673.out 0).trans rfl; have hcz24_1 : w23.cell? ⟨gb673, 1, none⟩ = some (.int .i64 a0_1) := (blk_cell BK673.out 1).trans rfl; have hcz24_2 : w23.cell? ⟨gb673, 2, none⟩ = some (.slice A0_2 l0_2.length c0_2) := (blk_cell BK673.out 2).trans rfl; have hcz24_3 : w23.cell? ⟨gb673, 3, none⟩ = some (.slice A0_3 l0_3.length c0_3) := (blk_cell BK673.out 3).trans rfl; have hfz24_0 := blk_frozen BK673.out 0; have hfz24_1 := blk_frozen BK673.out 1; have hfz24_2 := blk_frozen BK673.out 2; have hfz24_3 := blk_frozen BK673.out 3) | ((with_reducible refine gate_callee (f := 32) rfl ?_); refine goesL_ (some 16) rfl rfl Try.func32 (by kernel_rfl) rfl #[.agg #[.slice A0_0 l0_0.length c0_0, .int .i64 a0_1, .slice A0_2 l0_2.length c0_2, .slice A0_3 l0_3.length c0_3]] rfl (by (try simp only [List.map_toArray, List.map_cons, List.map_nil]); first | done | rfl | (simp only [List.length_drop, List.length_take]; rfl)) ?_; (with_reducible refine (laws_toLoop.calls k _ _ l0_0 a0_1 _ _ l0_2 _ _ l0_3 t686 t689 t690 t693 _ ?side1 ?side2 ?side3 ?side4 ?side5 ?side6 A9.out).mono ?_); (case side1 => repeat (first | exact (Kd.C_below HR0_0.out HB.out) | (with_reducible refine Kd.C_alloc ?_ _) | (with_reducible refine Kd.C_drewN ?_ _) | (with_reducible refine Kd.C_drew ?_))); (case side2 => exact HC0_0.out); (case side3 => repeat (first | exact (Kd.C_below HR0_2.out HB.out) | (with_reducible refine Kd.C_alloc ?_ _) | (with_reducible refine Kd.C_drewN ?_ _) | (with_reducible refine Kd.C_drew ?_))); (case side4 => exact HC0_2.out); (case side5 => repeat (first | exact (Kd.C_below HR0_3.out HB.out) | (with_reducible refine Kd.C_alloc ?_ _) | (with_reducible refine Kd.C_drewN ?_ _) | (with_reducible refine Kd.C_drew ?_))); (case side6 => exact HC0_3.out); rintro e w25 ⟨v687, v691, v694, rfl, ho0, ho1, ho2, hb⟩; refine ⟨_, rfl, ?_⟩; have n0_ := Aside0.mk (Kd.R_elder' (by (with_reducible repeat (first | apply Kd.R_alloc | apply Kd.R_drewN | apply Kd.R_drew)); exact HO677.out) (Kd.R_base ho0) hb); have n1_ := Aside0.mk (Kd.S_mono (Kd.S_told (Kd.S_told (Kd.S_old (by (with_reducible repeat (first | apply Kd.S_alloc | apply Kd.S_drewN | apply Kd.S_drew)); exact HO681.out) hb) (Kd.R_base ho0)) (Kd.S_base ho1)) (fun _ h_ => h_.1)); have n2_ := Aside0.mk (Kd.S_mono (Kd.S_told (Kd.S_told (Kd.S_old (by (with_reducible repeat (first | apply Kd.S_alloc | apply Kd.S_drewN | apply Kd.S_drew)); exact HO684.out) hb) (Kd.R_base ho0)) (Kd.S_base ho2)) (fun _ h_ => h_.1)); have n3_ := Aside0.mk (Kd.R_lower (Kd.R_new' ho0 (Kd.R_lt (by (with_reducible repeat (first | apply Kd.R_alloc | apply Kd.R_drewN | apply Kd.R_drew)); exact HO677.out))) (below_size (by repeat (first | (with_reducible first | exact HB.out | apply below_alloc | apply pw_below_drewN | apply below_drew1 | refine below_set ?_ GE673.out) | exact HB.out)))); have n4_ := Aside0.mk (Kd.S_lower (Kd.S_new' (Kd.S_new' ho1 (Kd.R_lt (by (with_reducible repeat (first | apply Kd.R_alloc | apply Kd.R_drewN | apply Kd.R_drew)); exact HO677.out))) (Kd.S_lt (by (with_reducible repeat (first | apply Kd.S_alloc | apply Kd.S_drewN | apply Kd.S_drew)); exact HO681.out))) (below_size (by repeat (first | (with_reducible first | exact HB.out | apply below_alloc | apply pw_below_drewN | apply below_drew1 | refine below_set ?_ GE673.out) | exact HB.out)))); have n5_ := Aside0.mk (Kd.S_lower (Kd.S_new' (Kd.S_new' ho2 (Kd.R_lt (by (with_reducible repeat (first | apply Kd.R_alloc | apply Kd.R_drewN | apply Kd.R_drew)); exact HO677.out))) (Kd.S_lt (by (with_reducible repeat (first | apply Kd.S_alloc | apply Kd.S_drewN | apply Kd.S_drew)); exact HO684.out))) (below_size (by repeat (first | (with_reducible first | exact HB.out | apply below_alloc | apply pw_below_drewN | apply below_drew1 | refine below_set ?_ GE673.out) | exact HB.out)))); have n6_ := Aside0.mk (blk_below (g := gb673) (o := .cells #[.slice A0_0 l0_0.length c0_0, .int .i64 a0_1, .slice A0_2 l0_2.length c0_2, .slice A0_3 l0_3.length c0_3] 43 (0, 0)) (by (with_reducible repeat (first | refine blk_drewN ?_ _ | refine blk_drew ?_ | refine blk_alloc ?_ _)); exact BK673.out) hb); have n7_ := Aside0.mk (below_step (by repeat (first | (with_reducible first | exact HB.out | apply below_alloc | apply pw_below_drewN | apply below_drew1 | refine below_set ?_ GE673.out) | exact HB.out)) hb); clear HO677; clear HO681; clear HO684; clear BK673; clear HB; have HO677 := n0_; have HO681 := n1_; have HO684 := n2_; have HO688 := n3_; have HO692 := n4_; have HO695 := n5_; have BK673 := n6_; have HB := n7_; clear n0_ n1_ n2_ n3_ n4_ n5_ n6_ n7_; (try clear hb); (try clear hb2); (try clear hk); (try clear hi); (try clear ho0); (try clear ho1); (try clear ho2)) | ((with_reducible refine gate_dst (N := 5) rfl ?_); refine box_event ?hg (N := 5) ?hd (cs := #[.slice none 0 0, .int .i64 0, .slice none 0 0, .slice none 0 0]) (t := 28) ?hr ?_; (case hd => rfl); (case hg => rfl); (case hr => first | (go_simp; done) | (go_simp; rfl)); intro gb696 hg w26 hbox hb; have n0_ := Aside0.mk (Kd.R_below (by (with_reducible repeat (first | apply Kd.R_alloc | apply Kd.R_drewN | apply Kd.R_drew)); exact HO677.out) hb); have n1_ := Aside0.mk (Kd.S_below (by (with_reducible repeat (first | apply Kd.S_alloc | apply Kd.S_drewN | apply Kd.S_drew)); exact HO681.out) hb); have n2_ := Aside0.mk (Kd.S_below (by (with_reducible repeat (first | apply Kd.S_alloc | apply Kd.S_drewN | apply Kd.S_drew)); exact HO684.out) hb); have n3_ := Aside0.mk (Kd.R_below (by (with_reducible repeat (first | apply Kd.R_alloc | apply Kd.R_drewN | apply Kd.R_drew)); exact HO688.out) hb); have n4_ := Aside0.mk (Kd.S_below (by (with_reducible repeat (first | apply Kd.S_alloc | apply Kd.S_drewN | apply Kd.S_drew)); exact HO692.out) hb); have n5_ := Aside0.mk (Kd.S_below (by (with_reducible repeat (first | apply Kd.S_alloc | apply Kd.S_drewN | apply Kd.S_drew)); exact HO695.out) hb); have n6_ := Aside0.mk (blk_below (g := gb673) (o := .cells #[.slice A0_0 l0_0.length c0_0, .int .i64 a0_1, .slice A0_2 l0_2.length c0_2, .slice A0_3 l0_3.length c0_3] 43 (0, 0)) (by (with_reducible repeat (first | refine blk_drewN ?_ _ | refine blk_drew ?_ | refine blk_alloc ?_ _)); exact BK673.out) hb); have n7_ := Aside0.mk (below_step (by repeat (first | (with_reducible first | exact HB.out | apply below_alloc | apply pw_below_drewN | apply below_drew1 | refine below_set ?_ GE673.out) | exact HB.out)) hb); have n8_ := Aside0.mk (hbox); have n9_ := Aside0.mk ((by rw [hg]; exact (below_size (by repeat (first | (with_reducible first | exact HB.out | apply below_alloc | apply pw_below_drewN | apply below_drew1 | refine below_set ?_ GE673.out) | exact HB.out))) : w.heap.size ≤ gb696)); have n10_ := Aside0.mk ((by rw [hg]; exact (below_size (by repeat (first | (with_reducible first | exact HB.out | apply below_alloc | apply pw_below_drewN | apply below_drew1 | refine below_set ?_ GE673.out) | exact HB.out))) : w.heap.size ≤ gb696)); have n11_ := Aside0.mk ((by rw [hg]; exact Nat.ne_of_lt (blk_lt (g := gb673) (o := .cells #[.slice A0_0 l0_0.length c0_0, .int .i64 a0_1, .slice A0_2 l0_2.length c0_2, .slice A0_3 l0_3.length c0_3] 43 (0, 0)) (by (with_reducible repeat (first | refine blk_drewN ?_ _ | refine blk_drew ?_ | refine blk_alloc ?_ _)); exact BK673.out)) : gb673 ≠ gb696)); have n12_ := Aside0.mk ((by rw [hg]; exact Nat.ne_of_gt (blk_lt (g := gb673) (o := .cells #[.slice A0_0 l0_0.length c0_0, .int .i64 a0_1, .slice A0_2 l0_2.length c0_2, .slice A0_3 l0_3.length c0_3] 43 (0, 0)) (by (with_reducible repeat (first | refine blk_drewN ?_ _ | refine blk_drew ?_ | refine blk_alloc ?_ _)); exact BK673.out)) : gb696 ≠ gb673)); clear HO677; clear HO681; clear HO684; clear HO688; clear HO692; clear HO695; clear BK673; clear HB; have HO677 := n0_; have HO681 := n1_; have HO684 := n2_; have HO688 := n3_; have HO692 := n4_; have HO695 := n5_; have BK673 := n6_; have HB := n7_; have BK696 := n8_; have GW696 := n9_; have GE696 := n10_; have NB673_696 := n11_; have NB696_673 := n12_; clear n0_ n1_ n2_ n3_ n4_ n5_ n6_ n7_ n8_ n9_ n10_ n11_ n12_; clear hb hbox hg; obtain ⟨Ao27, co27, eo27⟩ := Kd.R_slice HO688.out; subst eo27; have hnb28 := NB696_673.out; have hnc28 := NB673_696.out; have hcz29_0 : w26.cell? ⟨gb696, 0, none⟩ = some (.slice none 0 0) := (blk_cell BK696.out 0).trans rfl; have hcz29_1 : w26.cell? ⟨gb696, 1, none⟩ = some (.int .i64 0) := (blk_cell BK696.out 1).trans rfl; have hcz29_2 : w26.cell? ⟨gb696, 2, none⟩ = some (.slice none 0 0) := (blk_cell BK696.out 2).trans rfl; have hcz29_3 : w26.cell? ⟨gb696, 3, none⟩ = some (.slice none 0 0) := (blk_cell BK696.out 3).trans rfl; have hfz29_0 := blk_frozen BK696.out 0; have hfz29_1 := blk_frozen BK696.out 1; have hfz29_2 := blk_frozen BK696.out 2; have hfz29_3 := blk_frozen BK696.out 3; obtain ⟨Ao30, co30, eo30⟩ := Kd.S_slice HO692.out; subst eo30; obtain ⟨Ao31, co31, eo31⟩ := Kd.S_slice HO695.out; subst eo31) | ((with_reducible refine gate_callee (f := 21) rfl ?_); refine goesL_ (some 18) rfl rfl Try.func21 (by kernel_rfl) rfl #[.agg #[.slice Ao27 t686.length co27, .int .i64 t689, .slice Ao30 t690.length co30, .slice Ao31 t693.length co31]] rfl (by (try simp only [List.map_toArray, List.map_cons, List.map_nil]); first | done | rfl | (simp only [List.length_drop, List.length_take]; rfl)) ?_; (with_reducible refine (impl_MostSorted.calls k _ _ t686 t689 _ _ t690 _ _ t693 t697 _ ?side1 ?side2 ?side3 ?side4 ?side5 ?side6 A10.out).mono ?_); (case side1 => refine (Kd.R_reads' (e := 3) (base := w.heap.size) (ok := fun k_ => (True ∧ some k_ ≠ (.slice Ao20 t675.length co20 : Value).ownBlock)) (n := t686.length) (c := co27) ?_).2.2; exact (by (with_reducible repeat (first | apply Kd.R_alloc | apply Kd.R_drewN | apply Kd.R_drew)); exact (Kd.R_mono (Kd.R_far (p := ⟨gb696, 3, none⟩) (Kd.R_far (p := ⟨gb696, 2, none⟩) (Kd.R_far (p := ⟨gb696, 1, none⟩) (Kd.R_far (p := ⟨gb696, 0, none⟩) (Kd.R_types HO688.out BK696.out (by decide)) (fun _ hk => hk.2) (.slice Ao27 t686.length co27)) (fun _ hk => hk.2) (.int .i64 t689)) (fun _ hk => hk.2) (.slice Ao30 t690.length co30)) (fun _ hk => hk.2) (.slice Ao31 t693.length co31)) (fun _ h_ => h_.1)))); (case side2 => exact (Kd.R_reads' HO688.out).2.1); (case side3 => refine (Kd.S_reads' (e := 69) (base := w.heap.size) (ok := fun k_ => ((some k_ ≠ (.slice Ao27 t686.length co27 : Value).ownBlock ∧ some k_ ≠ (.slice Ao20 t675.length co20 : Value).ownBlock) ∧ some k_ ≠ (.slice Ao21 t679.length co21 : Value).ownBlock)) (n := t690.length) (c := co30) ?_).2.2; exact (by (with_reducible repeat (first | apply Kd.S_alloc | apply Kd.S_drewN | apply Kd.S_drew)); exact (Kd.S_mono (Kd.S_far (p := ⟨gb696, 3, none⟩) (Kd.S_far (p := ⟨gb696, 2, none⟩) (Kd.S_far (p := ⟨gb696, 1, none⟩) (Kd.S_far (p := ⟨gb696, 0, none⟩) (Kd.S_types HO692.out BK696.out (by decide)) (fun _ hk => hk.2) (.slice Ao27 t686.length co27)) (fun _ hk => hk.2) (.int .i64 t689)) (fun _ hk => hk.2) (.slice Ao30 t690.length co30)) (fun _ hk => hk.2) (.slice Ao31 t693.length co31)) (fun _ h_ => h_.1)))); (case side4 => exact (Kd.S_reads' HO692.out).2.1); (case side5 => refine (Kd.S_reads' (e := 74) (base := w.heap.size) (ok := fun k_ => ((some k_ ≠ (.slice Ao27 t686.length co27 : Value).ownBlock ∧ some k_ ≠ (.slice Ao20 t675.length co20 : Value).ownBlock) ∧ some k_ ≠ (.slice Ao22 t682.length co22 : Value).ownBlock)) (n := t693.length) (c := co31) ?_).2.2; exact (by (with_reducible repeat (first | apply Kd.S_alloc | apply Kd.S_drewN | apply Kd.S_drew)); exact (Kd.S_mono (Kd.S_far (p := ⟨gb696, 3, none⟩) (Kd.S_far (p := ⟨gb696, 2, none⟩) (Kd.S_far (p := ⟨gb696, 1, none⟩) (Kd.S_far (p := ⟨gb696, 0, none⟩) (Kd.S_types HO695.out BK696.out (by decide)) (fun _ hk => hk.2) (.slice Ao27 t686.length co27)) (fun _ hk => hk.2) (.int .i64 t689)) (fun _ hk => hk.2) (.slice Ao30 t690.length co30)) (fun _ hk => hk.2) (.slice Ao31 t693.length co31)) (fun _ h_ => h_.1)))); (case side6 => exact (Kd.S_reads' HO695.out).2.1); rintro e w32 ⟨rfl, hb⟩; refine ⟨_, rfl, ?_⟩; have n0_ := Aside0.mk (Kd.R_below (by (with_reducible repeat (first | apply Kd.R_alloc | apply Kd.R_drewN | apply Kd.R_drew)); exact (Kd.R_mono (Kd.R_far (p := ⟨gb696, 3, none⟩) (Kd.R_far (p := ⟨gb696, 2, none⟩) (Kd.R_far (p := ⟨gb696, 1, none⟩) (Kd.R_far (p := ⟨gb696, 0, none⟩) (Kd.R_types HO677.out BK696.out (by decide)) (fun _ hk => hk.2) (.slice Ao27 t686.length co27)) (fun _ hk => hk.2) (.int .i64 t689)) (fun _ hk => hk.2) (.slice Ao30 t690.length co30)) (fun _ hk => hk.2) (.slice Ao31 t693.length co31)) (fun _ h_ => h_.1))) hb); have n1_ := Aside0.mk (Kd.S_below (by (with_reducible repeat (first | apply Kd.S_alloc | apply Kd.S_drewN | apply Kd.S_drew)); exact (Kd.S_mono (Kd.S_far (p := ⟨gb696, 3, none⟩) (Kd.S_far (p := ⟨gb696, 2, none⟩) (Kd.S_far (p := ⟨gb696, 1, none⟩) (Kd.S_far (p := ⟨gb696, 0, none⟩) (Kd.S_types HO681.out BK696.out (by decide)) (fun _ hk => hk.2) (.slice Ao27 t686.length co27)) (fun _ hk => hk.2) (.int .i64 t689)) (fun _ hk => hk.2) (.slice Ao30 t690.length co30)) (fun _ hk => hk.2) (.slice Ao31 t693.length co31)) (fun _ h_ => h_.1))) hb); have n2_ := Aside0.mk (Kd.S_below (by (with_reducible repeat (first | apply Kd.S_alloc | apply Kd.S_drewN | apply Kd.S_drew)); exact (Kd.S_mono (Kd.S_far (p := ⟨gb696, 3, none⟩) (Kd.S_far (p := ⟨gb696, 2, none⟩) (Kd.S_far (p := ⟨gb696, 1, none⟩) (Kd.S_far (p := ⟨gb696, 0, none⟩) (Kd.S_types HO684.out BK696.out (by decide)) (fun _ hk => hk.2) (.slice Ao27 t686.length co27)) (fun _ hk => hk.2) (.int .i64 t689)) (fun _ hk => hk.2) (.slice Ao30 t690.length co30)) (fun _ hk => hk.2) (.slice Ao31 t693.length co31)) (fun _ h_ => h_.1))) hb); have n3_ := Aside0.mk (Kd.R_below (by (with_reducible repeat (first | apply Kd.R_alloc | apply Kd.R_drewN | apply Kd.R_drew)); exact (Kd.R_mono (Kd.R_far (p := ⟨gb696, 3, none⟩) (Kd.R_far (p := ⟨gb696, 2, none⟩) (Kd.R_far (p := ⟨gb696, 1, none⟩) (Kd.R_far (p := ⟨gb696, 0, none⟩) (Kd.R_types HO688.out BK696.out (by decide)) (fun _ hk => hk.2) (.slice Ao27 t686.length co27)) (fun _ hk => hk.2) (.int .i64 t689)) (fun _ hk => hk.2) (.slice Ao30 t690.length co30)) (fun _ hk => hk.2) (.slice Ao31 t693.length co31)) (fun _ h_ => h_.1))) hb); have n4_ := Aside0.mk (Kd.S_below (by (with_reducible repeat (first | apply Kd.S_alloc | apply Kd.S_drewN | apply Kd.S_drew)); exact (Kd.S_mono (Kd.S_far (p := ⟨gb696, 3, none⟩) (Kd.S_far (p := ⟨gb696, 2, none⟩) (Kd.S_far (p := ⟨gb696, 1, none⟩) (Kd.S_far (p := ⟨gb696, 0, none⟩) (Kd.S_types HO692.out BK696.out (by decide)) (fun _ hk => hk.2) (.slice Ao27 t686.length co27)) (fun _ hk => hk.2) (.int .i64 t689)) (fun _ hk => hk.2) (.slice Ao30 t690.length co30)) (fun _ hk => hk.2) (.slice Ao31 t693.length co31)) (fun _ h_ => h_.1))) hb); have n5_ := Aside0.mk (Kd.S_below (by (with_reducible repeat (first | apply Kd.S_alloc | apply Kd.S_drewN | apply Kd.S_drew)); exact (Kd.S_mono (Kd.S_far (p := ⟨gb696, 3, none⟩) (Kd.S_far (p := ⟨gb696, 2, none⟩) (Kd.S_far (p := ⟨gb696, 1, none⟩) (Kd.S_far (p := ⟨gb696, 0, none⟩) (Kd.S_types HO695.out BK696.out (by decide)) (fun _ hk => hk.2) (.slice Ao27 t686.length co27)) (fun _ hk => hk.2) (.int .i64 t689)) (fun _ hk => hk.2) (.slice Ao30 t690.length co30)) (fun _ hk => hk.2) (.slice Ao31 t693.length co31)) (fun _ h_ => h_.1))) hb); have n6_ := Aside0.mk (blk_below (g := gb673) (o := .cells #[.slice A0_0 l0_0.length c0_0, .int .i64 a0_1, .slice A0_2 l0_2.length c0_2, .slice A0_3 l0_3.length c0_3] 43 (0, 0)) (by (with_reducible repeat (first | refine blk_drewN ?_ _ | refine blk_drew ?_ | refine blk_alloc ?_ _)); refine blk_far ?_ NB673_696.out _; (with_reducible repeat (first | refine blk_drewN ?_ _ | refine blk_drew ?_ | refine blk_alloc ?_ _)); refine blk_far ?_ NB673_696.out _; (with_reducible repeat (first | refine blk_drewN ?_ _ | refine blk_drew ?_ | refine blk_alloc ?_ _)); refine blk_far ?_ NB673_696.out _; (with_reducible repeat (first | refine blk_drewN ?_ _ | refine blk_drew ?_ | refine blk_alloc ?_ _)); refine blk_far ?_ NB673_696.out _; (with_reducible repeat (first | refine blk_drewN ?_ _ | refine blk_drew ?_ | refine blk_alloc ?_ _)); exact BK673.out) hb); have n7_ := Aside0.mk (blk_below (g := gb696) (o := .cells #[.slice Ao27 t686.length co27, .int .i64 t689, .slice Ao30 t690.length co30, .slice Ao31 t693.length co31] 28 (0, 0)) (by (with_reducible repeat (first | refine blk_drewN ?_ _ | refine blk_drew ?_ | refine blk_alloc ?_ _)); refine blk_put (cs := #[.slice Ao27 t686.length co27, .int .i64 t689, .slice Ao30 t690.length co30, .slice none 0 0]) ?_ 3 _ rfl; (with_reducible repeat (first | refine blk_drewN ?_ _ | refine blk_drew ?_ | refine blk_alloc ?_ _)); refine blk_put (cs := #[.slice Ao27 t686.length co27, .int .i64 t689, .slice none 0 0, .slice none 0 0]) ?_ 2 _ rfl; (with_reducible repeat (first | refine blk_drewN ?_ _ | refine blk_drew ?_ | refine blk_alloc ?_ _)); refine blk_put (cs := #[.slice Ao27 t686.length co27, .int .i64 0, .slice none 0 0, .slice none 0 0]) ?_ 1 _ rfl; (with_reducible repeat (first | refine blk_drewN ?_ _ | refine blk_drew ?_ | refine blk_alloc ?_ _)); refine blk_put (cs := #[.slice none 0 0, .int .i64 0, .slice none 0 0, .slice none 0 0]) ?_ 0 _ rfl; (with_reducible repeat (first | refine blk_drewN ?_ _ | refine blk_drew ?_ | refine blk_alloc ?_ _)); exact BK696.out) hb); have n8_ := Aside0.mk (below_step (by repeat (first | (with_reducible first | exact HB.out | apply below_alloc | apply pw_below_drewN | apply below_drew1 | refine below_set ?_ GE673.out | refine below_set ?_ GE696.out) | exact HB.out)) hb); clear HO677; clear HO681; clear HO684; clear HO688; clear HO692; clear HO695; clear BK673; clear BK696; clear HB; have HO677 := n0_; have HO681 := n1_; have HO684 := n2_; have HO688 := n3_; have HO692 := n4_; have HO695 := n5_; have BK673 := n6_; have BK696 := n7_; have HB := n8_; clear n0_ n1_ n2_ n3_ n4_ n5_ n6_ n7_ n8_; (try clear hb); (try clear hb2); (try clear hk); (try clear hi)))
    have n0_ := Aside0.mk (Kd.R_drew HO677.out)
    have n1_ := Aside0.mk (Kd.S_drew HO681.out)
    have n2_ := Aside0.mk (Kd.S_drew HO684.out)
    have n3_ := Aside0.mk (Kd.R_drew HO688.out)
    have n4_ := Aside0.mk (Kd.S_drew HO692.out)
    have n5_ := Aside0.mk (Kd.S_drew HO695.out)
    have n6_ := Aside0.mk (blk_drew BK673.out)
    have n7_ := Aside0.mk (blk_drew BK696.out)
    have n8_ := Aside0.mk (below_drew1 HB.out)
    clear HO677
    clear HO681
    clear HO684
    clear HO688
    clear HO692
    clear HO695
    clear BK673
    clear BK696
    clear HB
    have HO677 := n0_
    have HO681 := n1_
    have HO684 := n2_
    have HO688 := n3_
    have HO692 := n4_
    have HO695 := n5_
    have BK673 := n6_
    have BK696 := n7_
    have HB := n8_
    clear n0_ n1_ n2_ n3_ n4_ n5_ n6_ n7_ n8_
    refine start_ (n := 5) (S := fun w' => w'.cell? ⟨gb696, 0, none⟩ = some (.slice Ao27 t686.length co27) ∧ w'.cell? ⟨gb696, 1, none⟩ = some (.int .i64 t689) ∧ w'.cell? ⟨gb696, 2, none⟩ = some (.slice Ao30 t690.length co30) ∧ w'.cell? ⟨gb696, 3, none⟩ = some (.slice Ao31 t693.length co31) ∧ w'.cell? ⟨gb673, 0, none⟩ = some (.slice A0_0 l0_0.length c0_0) ∧ w'.cell? ⟨gb673, 1, none⟩ = some (.int .i64 a0_1) ∧ w'.cell? ⟨gb673, 2, none⟩ = some (.slice A0_2 l0_2.length c0_2) ∧ w'.cell? ⟨gb673, 3, none⟩ = some (.slice A0_3 l0_3.length c0_3)) (ds := []) #[false, false, false, false, false] (by kernel_rfl) rfl rfl ⟨(blk_cell BK696.out 0).trans rfl, (blk_cell BK696.out 1).trans rfl, (blk_cell BK696.out 2).trans rfl, (blk_cell BK696.out 3).trans rfl, (blk_cell BK673.out 0).trans rfl, (blk_cell BK673.out 1).trans rfl, (blk_cell BK673.out 2).trans rfl, (blk_cell BK673.out 3).trans rfl⟩ (fun hHeld => ?_)
    generalize w32.drew = w33 at HO677 HO681 HO684 HO688 HO692 HO695 BK673 BK696 HB hHeld ⊢
    refine take_ (i := 0) (N := some 22) (v := ?_) (a' := ?_) #[true, false, false, false, false] rfl rfl (by kernel_rfl) (fun _ _ _ h => h) (Or.inl ⟨by rfl, ?_⟩) hHeld ?_ ?_
    rotate_left
    ·rintro w' ⟨s0, s1, s2, s3, s4, s5, s6, s7⟩
     go_simp
     with_reducible rfl
    rotate_left
    ·simp only [Act.put, List.setIfInBounds_toArray, List.set_cons_zero, List.set_cons_succ, i64_w, i32_w]
     rfl
    refine take_ (i := 1) (N := some 23) (v := ?_) (a' := ?_) #[true, true, false, false, false] rfl rfl (by kernel_rfl) (fun _ _ _ h => h) (Or.inl ⟨by rfl, ?_⟩) hHeld ?_ ?_
    rotate_left
    ·rintro w' ⟨s0, s1, s2, s3, s4, s5, s6, s7⟩
     go_simp
     with_reducible rfl
    rotate_left
    ·simp only [Act.put, List.setIfInBounds_toArray, List.set_cons_zero, List.set_cons_succ, i64_w, i32_w]
     rfl
    refine one_ (i := 2) (N := some 24) #[true, true, true, false, false] rfl rfl (by kernel_rfl) (by decide) (fun K hK => ?_)
    refine goes_ Try.func32 (by kernel_rfl) rfl #[.agg #[.slice A0_0 l0_0.length c0_0, .int .i64 a0_1, .slice A0_2 l0_2.length c0_2, .slice A0_3 l0_3.length c0_3]] (by rfl) rfl rfl (by (try simp only [List.map_toArray, List.map_cons, List.map_nil]); first | done | rfl | (simp only [List.length_drop, List.length_take]; rfl)) ?_
    with_reducible refine (laws_toLoop.calls k _ _ l0_0 a0_1 _ _ l0_2 _ _ l0_3 t698 t701 t702 t705 _ ?side1 ?side2 ?side3 ?side4 ?side5 ?side6 A12.out).mono ?_
    (case side1 => repeat (first | exact (Kd.C_below HR0_0.out HB.out) | (with_reducible refine Kd.C_alloc ?_ _) | (with_reducible refine Kd.C_drewN ?_ _) | (with_reducible refine Kd.C_drew ?_)))
    (case side2 => exact HC0_0.out)
    (case side3 => repeat (first | exact (Kd.C_below HR0_2.out HB.out) | (with_reducible refine Kd.C_alloc ?_ _) | (with_reducible refine Kd.C_drewN ?_ _) | (with_reducible refine Kd.C_drew ?_)))
    (case side4 => exact HC0_2.out)
    (case side5 => repeat (first | exact (Kd.C_below HR0_3.out HB.out) | (with_reducible refine Kd.C_alloc ?_ _) | (with_reducible refine Kd.C_drewN ?_ _) | (with_reducible refine Kd.C_drew ?_)))
    (case side6 => exact HC0_3.out)
    rintro e w34 ⟨v699, v703, v706, rfl, ho0, ho1, ho2, hb⟩
    refine ⟨_, rfl, ?_⟩
    have n0_ := Aside0.mk (Kd.R_elder' (by (with_reducible repeat (first | apply Kd.R_alloc | apply Kd.R_drewN | apply Kd.R_drew)); exact HO677.out) (Kd.R_base ho0) hb)
    have n1_ := Aside0.mk (Kd.S_mono (Kd.S_told (Kd.S_told (Kd.S_old (by (with_reducible repeat (first | apply Kd.S_alloc | apply Kd.S_drewN | apply Kd.S_drew)); exact HO681.out) hb) (Kd.R_base ho0)) (Kd.S_base ho1)) (fun _ h_ => h_.1))
    have n2_ := Aside0.mk (Kd.S_mono (Kd.S_told (Kd.S_told (Kd.S_old (by (with_reducible repeat (first | apply Kd.S_alloc | apply Kd.S_drewN | apply Kd.S_drew)); exact HO684.out) hb) (Kd.R_base ho0)) (Kd.S_base ho2)) (fun _ h_ => h_.1))
    have n3_ := Aside0.mk (Kd.R_elder' (by (with_reducible repeat (first | apply Kd.R_alloc | apply Kd.R_drewN | apply Kd.R_drew)); exact HO688.out) (Kd.R_base ho0) hb)
    have n4_ := Aside0.mk (Kd.S_mono (Kd.S_told (Kd.S_told (Kd.S_old (by (with_reducible repeat (first | apply Kd.S_alloc | apply Kd.S_drewN | apply Kd.S_drew)); exact HO692.out) hb) (Kd.R_base ho0)) (Kd.S_base ho1)) (fun _ h_ => h_.1))
    have n5_ := Aside0.mk (Kd.S_mono (Kd.S_told (Kd.S_told (Kd.S_old (by (with_reducible repeat (first | apply Kd.S_alloc | apply Kd.S_drewN | apply Kd.S_drew)); exact HO695.out) hb) (Kd.R_base ho0)) (Kd.S_base ho2)) (fun _ h_ => h_.1))
    have n6_ := Aside0.mk (Kd.R_lower (Kd.R_new' (Kd.R_new' ho0 (Kd.R_lt (by (with_reducible repeat (first | apply Kd.R_alloc | apply Kd.R_drewN | apply Kd.R_drew)); exact HO677.out))) (Kd.R_lt (by (with_reducible repeat (first | apply Kd.R_alloc | apply Kd.R_drewN | apply Kd.R_drew)); exact HO688.out))) (below_size (by repeat (first | (with_reducible first | exact HB.out | apply below_alloc | apply pw_below_drewN | apply below_drew1 | refine below_set ?_ GE673.out | refine below_set ?_ GE696.out) | exact HB.out))))
    have n7_ := Aside0.mk (Kd.S_lower (Kd.S_new' (Kd.S_new' (Kd.S_new' (Kd.S_new' ho1 (Kd.R_lt (by (with_reducible repeat (first | apply Kd.R_alloc | apply Kd.R_drewN | apply Kd.R_drew)); exact HO677.out))) (Kd.S_lt (by (with_reducible repeat (first | apply Kd.S_alloc | apply Kd.S_drewN | apply Kd.S_drew)); exact HO681.out))) (Kd.R_lt (by (with_reducible repeat (first | apply Kd.R_alloc | apply Kd.R_drewN | apply Kd.R_drew)); exact HO688.out))) (Kd.S_lt (by (with_reducible repeat (first | apply Kd.S_alloc | apply Kd.S_drewN | apply Kd.S_drew)); exact HO692.out))) (below_size (by repeat (first | (with_reducible first | exact HB.out | apply below_alloc | apply pw_below_drewN | apply below_drew1 | refine below_set ?_ GE673.out | refine below_set ?_ GE696.out) | exact HB.out))))
    have n8_ := Aside0.mk (Kd.S_lower (Kd.S_new' (Kd.S_new' (Kd.S_new' (Kd.S_new' ho2 (Kd.R_lt (by (with_reducible repeat (first | apply Kd.R_alloc | apply Kd.R_drewN | apply Kd.R_drew)); exact HO677.out))) (Kd.S_lt (by (with_reducible repeat (first | apply Kd.S_alloc | apply Kd.S_drewN | apply Kd.S_drew)); exact HO684.out))) (Kd.R_lt (by (with_reducible repeat (first | apply Kd.R_alloc | apply Kd.R_drewN | apply Kd.R_drew)); exact HO688.out))) (Kd.S_lt (by (with_reducible repeat (first | apply Kd.S_alloc | apply Kd.S_drewN | apply Kd.S_drew)); exact HO695.out))) (below_size (by repeat (first | (with_reducible first | exact HB.out | apply below_alloc | apply pw_below_drewN | apply below_drew1 | refine below_set ?_ GE673.out | refine below_set ?_ GE696.out) | exact HB.out))))
    have n9_ := Aside0.mk (blk_below (g := gb673) (o := .cells #[.slice A0_0 l0_0.length c0_0, .int .i64 a0_1, .slice A0_2 l0_2.length c0_2, .slice A0_3 l0_3.length c0_3] 43 (0, 0)) (by (with_reducible repeat (first | refine blk_drewN ?_ _ | refine blk_drew ?_ | refine blk_alloc ?_ _)); exact BK673.out) hb)
    have n10_ := Aside0.mk (blk_below (g := gb696) (o := .cells #[.slice Ao27 t686.length co27, .int .i64 t689, .slice Ao30 t690.length co30, .slice Ao31 t693.length co31] 28 (0, 0)) (by (with_reducible repeat (first | refine blk_drewN ?_ _ | refine blk_drew ?_ | refine blk_alloc ?_ _)); exact BK696.out) hb)
    have n11_ := Aside0.mk (below_step (by repeat (first | (with_reducible first | exact HB.out | apply below_alloc | apply pw_below_drewN | apply below_drew1 | refine below_set ?_ GE673.out | refine below_set ?_ GE696.out) | exact HB.out)) hb)
    clear HO677
    clear HO681
    clear HO684
    clear HO688
    clear HO692
    clear HO695
    clear BK673
    clear BK696
    clear HB
    have HO677 := n0_
    have HO681 := n1_
    have HO684 := n2_
    have HO688 := n3_
    have HO692 := n4_
    have HO695 := n5_
    have HO700 := n6_
    have HO704 := n7_
    have HO707 := n8_
    have BK673 := n9_
    have BK696 := n10_
    have HB := n11_
    clear n0_ n1_ n2_ n3_ n4_ n5_ n6_ n7_ n8_ n9_ n10_ n11_
    (try clear hb)
    (try clear hb2)
    (try clear hk)
    (try clear hi)
    (try clear ho0)
    (try clear ho1)
    (try clear ho2)
    obtain ⟨Ao35, co35, eo35⟩ := Kd.R_slice HO700.out
    (first | subst eo35 | (injection eo35 with f1_ f2_ f3_; have f4_ := f1_.symm; have f5_ := f3_.symm; clear f1_ f2_ f3_; subst f4_; subst f5_))
    obtain ⟨Ao36, co36, eo36⟩ := Kd.S_slice HO704.out
    (first | subst eo36 | (injection eo36 with f1_ f2_ f3_; have f4_ := f1_.symm; have f5_ := f3_.symm; clear f1_ f2_ f3_; subst f4_; subst f5_))
    obtain ⟨Ao37, co37, eo37⟩ := Kd.S_slice HO707.out
    (first | subst eo37 | (injection eo37 with f1_ f2_ f3_; have f4_ := f1_.symm; have f5_ := f3_.symm; clear f1_ f2_ f3_; subst f4_; subst f5_))
    refine hK.out _ _ ⟨(blk_cell BK696.out 0).trans rfl, (blk_cell BK696.out 1).trans rfl, (blk_cell BK696.out 2).trans rfl, (blk_cell BK696.out 3).trans rfl, (blk_cell BK673.out 0).trans rfl, (blk_cell BK673.out 1).trans rfl, (blk_cell BK673.out 2).trans rfl, (blk_cell BK673.out 3).trans rfl⟩ (fun hHeld => ?_)
    clear hK K
    refine norm_ (a' := ?_) ?_ ?_
    rotate_left
    ·show Act.put _ (some 24) _ = _
     simp only [Act.put, List.setIfInBounds_toArray, List.set_cons_zero, List.set_cons_succ, i64_w, i32_w]
     rfl
    refine one_ (i := 3) (N := some 25) #[true, true, true, true, false] rfl rfl (by kernel_rfl) (by decide) (fun K hK => ?_)
    refine goes_ Try.func33 (by kernel_rfl) rfl #[.agg #[.slice Ao27 t686.length co27, .int .i64 t689, .slice Ao30 t690.length co30, .slice Ao31 t693.length co31], .agg #[.slice Ao35 t698.length co35, .int .i64 t701, .slice Ao36 t702.length co36, .slice Ao37 t705.length co37]] (by rfl) rfl rfl (by (try simp only [List.map_toArray, List.map_cons, List.map_nil]); first | done | rfl | (simp only [List.length_drop, List.length_take]; rfl)) ?_
    with_reducible refine (laws_eqLoop.calls k _ _ t686 t689 _ _ t690 _ _ t693 _ _ t698 t701 _ _ t702 _ _ t705 true _ ?side1 ?side2 ?side3 ?side4 ?side5 ?side6 ?side7 ?side8 ?side9 ?side10 ?side11 ?side12 A13.out).mono ?_
    (case side1 => repeat (first | exact (Kd.R_reads' HO688.out).2.2 | (with_reducible refine Kd.C_alloc ?_ _) | (with_reducible refine Kd.C_drewN ?_ _) | (with_reducible refine Kd.C_drew ?_)))
    (case side2 => exact (Kd.R_reads' HO688.out).2.1)
    (case side3 => repeat (first | exact (Kd.S_reads' HO692.out).2.2 | (with_reducible refine Kd.C_alloc ?_ _) | (with_reducible refine Kd.C_drewN ?_ _) | (with_reducible refine Kd.C_drew ?_)))
    (case side4 => exact (Kd.S_reads' HO692.out).2.1)
    (case side5 => repeat (first | exact (Kd.S_reads' HO695.out).2.2 | (with_reducible refine Kd.C_alloc ?_ _) | (with_reducible refine Kd.C_drewN ?_ _) | (with_reducible refine Kd.C_drew ?_)))
    (case side6 => exact (Kd.S_reads' HO695.out).2.1)
    (case side7 => repeat (first | exact (Kd.R_reads' HO700.out).2.2 | (with_reducible refine Kd.C_alloc ?_ _) | (with_reducible refine Kd.C_drewN ?_ _) | (with_reducible refine Kd.C_drew ?_)))
    (case side8 => exact (Kd.R_reads' HO700.out).2.1)
    (case side9 => repeat (first | exact (Kd.S_reads' HO704.out).2.2 | (with_reducible refine Kd.C_alloc ?_ _) | (with_reducible refine Kd.C_drewN ?_ _) | (with_reducible refine Kd.C_drew ?_)))
    (case side10 => exact (Kd.S_reads' HO704.out).2.1)
    (case side11 => repeat (first | exact (Kd.S_reads' HO707.out).2.2 | (with_reducible refine Kd.C_alloc ?_ _) | (with_reducible refine Kd.C_drewN ?_ _) | (with_reducible refine Kd.C_drew ?_)))
    (case side12 => exact (Kd.S_reads' HO707.out).2.1)
    rintro e w38 ⟨rfl, hb⟩
    refine ⟨_, rfl, ?_⟩
    have n0_ := Aside0.mk (Kd.R_below (by (with_reducible repeat (first | apply Kd.R_alloc | apply Kd.R_drewN | apply Kd.R_drew)); exact HO677.out) hb)
    have n1_ := Aside0.mk (Kd.S_below (by (with_reducible repeat (first | apply Kd.S_alloc | apply Kd.S_drewN | apply Kd.S_drew)); exact HO681.out) hb)
    have n2_ := Aside0.mk (Kd.S_below (by (with_reducible repeat (first | apply Kd.S_alloc | apply Kd.S_drewN | apply Kd.S_drew)); exact HO684.out) hb)
    have n3_ := Aside0.mk (Kd.R_below (by (with_reducible repeat (first | apply Kd.R_alloc | apply Kd.R_drewN | apply Kd.R_drew)); exact HO688.out) hb)
    have n4_ := Aside0.mk (Kd.S_below (by (with_reducible repeat (first | apply Kd.S_alloc | apply Kd.S_drewN | apply Kd.S_drew)); exact HO692.out) hb)
    have n5_ := Aside0.mk (Kd.S_below (by (with_reducible repeat (first | apply Kd.S_alloc | apply Kd.S_drewN | apply Kd.S_drew)); exact HO695.out) hb)
    have n6_ := Aside0.mk (Kd.R_below (by (with_reducible repeat (first | apply Kd.R_alloc | apply Kd.R_drewN | apply Kd.R_drew)); exact HO700.out) hb)
    have n7_ := Aside0.mk (Kd.S_below (by (with_reducible repeat (first | apply Kd.S_alloc | apply Kd.S_drewN | apply Kd.S_drew)); exact HO704.out) hb)
    have n8_ := Aside0.mk (Kd.S_below (by (with_reducible repeat (first | apply Kd.S_alloc | apply Kd.S_drewN | apply Kd.S_drew)); exact HO707.out) hb)
    have n9_ := Aside0.mk (blk_below (g := gb673) (o := .cells #[.slice A0_0 l0_0.length c0_0, .int .i64 a0_1, .slice A0_2 l0_2.length c0_2, .slice A0_3 l0_3.length c0_3] 43 (0, 0)) (by (with_reducible repeat (first | refine blk_drewN ?_ _ | refine blk_drew ?_ | refine blk_alloc ?_ _)); exact BK673.out) hb)
    have n10_ := Aside0.mk (blk_below (g := gb696) (o := .cells #[.slice Ao27 t686.length co27, .int .i64 t689, .slice Ao30 t690.length co30, .slice Ao31 t693.length co31] 28 (0, 0)) (by (with_reducible repeat (first | refine blk_drewN ?_ _ | refine blk_drew ?_ | refine blk_alloc ?_ _)); exact BK696.out) hb)
    have n11_ := Aside0.mk (below_step (by repeat (first | (with_reducible first | exact HB.out | apply below_alloc | apply pw_below_drewN | apply below_drew1 | refine below_set ?_ GE673.out | refine below_set ?_ GE696.out) | exact HB.out)) hb)
    clear HO677
    clear HO681
    clear HO684
    clear HO688
    clear HO692
    clear HO695
    clear HO700
    clear HO704
    clear HO707
    clear BK673
    clear BK696
    clear HB
    have HO677 := n0_
    have HO681 := n1_
    have HO684 := n2_
    have HO688 := n3_
    have HO692 := n4_
    have HO695 := n5_
    have HO700 := n6_
    have HO704 := n7_
    have HO707 := n8_
    have BK673 := n9_
    have BK696 := n10_
    have HB := n11_
    clear n0_ n1_ n2_ n3_ n4_ n5_ n6_ n7_ n8_ n9_ n10_ n11_
    (try clear hb)
    (try clear hb2)
    (try clear hk)
    (try clear hi)
    refine hK.out _ _ ⟨(blk_cell BK696.out 0).trans rfl, (blk_cell BK696.out 1).trans rfl, (blk_cell BK696.out 2).trans rfl, (blk_cell BK696.out 3).trans rfl, (blk_cell BK673.out 0).trans rfl, (blk_cell BK673.out 1).trans rfl, (blk_cell BK673.out 2).trans rfl, (blk_cell BK673.out 3).trans rfl⟩ (fun hHeld => ?_)
    clear hK K
    refine norm_ (a' := ?_) ?_ ?_
    rotate_left
    ·show Act.put _ (some 25) _ = _
     simp only [Act.put, List.setIfInBounds_toArray, List.set_cons_zero, List.set_cons_succ, i64_w, i32_w]
     rfl
    refine pure_ (i := 4) (N := some 26) (v := ?_) (a' := ?_) #[true, true, true, true, true] rfl rfl (by kernel_rfl) (fun _ _ _ h => h) (Or.inl ⟨by rfl, ?_⟩) ?_ ?_
    rotate_left
    ·intro w'
     go_simp
     with_reducible rfl
    rotate_left
    ·simp only [Act.put, List.setIfInBounds_toArray, List.set_cons_zero, List.set_cons_succ, i64_w, i32_w]
     rfl
    refine done_ (by kernel_rfl) ?_
    try go_wp2
    go_ret
    exact ⟨by first | rfl | (simp [errW_none, errW_some] <;> rfl) | (simp [*, errW_none, errW_some] <;> rfl), by repeat (first | (with_reducible first | exact HB.out | apply below_alloc | apply pw_below_drewN | apply below_drew1 | refine below_set ?_ GE673.out | refine below_set ?_ GE696.out) | exact HB.out)⟩
   ·replace c14 := Bool.eq_false_iff.mpr c14
    subst c14
    have H1 : (some false) = some r := by rw [if_neg (show ¬ (false = true) by decide)] at H; exact H
    clear H
    have H := H1
    clear H1
    exact absurd (H.trans (congrArg some hrt.out)) (by simp)
  ·rw [if_neg c11] at H
   have c11b0 : (t697 == t685) = false := beq_eq_false_iff_ne.mpr c11
   have c11b1 : (t697 != t685) = true := bne_iff_ne.mpr c11
   exact absurd (H.trans (congrArg some hrt.out)) (by simp)

end Go.Proofs.Ytmjhbdmicejppaa.Px
