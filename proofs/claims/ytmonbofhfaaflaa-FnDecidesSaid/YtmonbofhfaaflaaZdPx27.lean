import Derived.Test.YtmonbofhfaaflaaZdPx0
import Derived.Test.YtmonbofhfaaflaaZdPx1
import Derived.Test.YtmonbofhfaaflaaZdPx6
import Derived.Test.YtmonbofhfaaflaaZdPx12
import Derived.Test.YtmonbofhfaaflaaZdPx15
import Derived.Test.YtmonbofhfaaflaaZdPx16
import Derived.Test.YtmonbofhfaaflaaZdPx26
namespace Go.Proofs.Ytmonbofhfaaflaa.Px
open Go.RowKit Go.Proofs.YtmonbofhfaaflaaW.PrintWords Go.Proofs.YtmonbofhfaaflaaW.PrintLast Go.Proofs.YtmonbofhfaaflaaW.PrintMore
attribute [local go_sem] max2_int min2_int max_two min_two max_three min_three max_four min_four   -- for this text's walks alone
set_option linter.unusedVariables false
set_option linter.unusedSimpArgs false

attribute [local go_sem high] eqA39
mutual
def laws_FnDecides.j0 : Nat → Int → Int → Bool → Bool → List Int → Int → Int → Int → Int → Int → Int → Option (Bool)
 | 0, _, _, _, _, _, _, _, _, _, _, _ => none
 | k + 1, x5, x6, x10, x44, x624000, x625000, x625001, x625002, x630000, x630001, x630002 => if x44 = true then (some false) else (if x10 = true then ((impl_Elapse.f k x624000 x625000 x625001 x625002 x5).bind fun bt635 => ((impl_ScreenOk.f x630000 x630001 x630002).bind fun t639 => (if t639 = true then (if ((x630002 == 1) != (x6 == 1)) = true then (laws_FnDecides.j1 k x5 x6 true x630000 x630001 x630002 bt635.1 bt635.2.1 bt635.2.2) else (laws_FnDecides.j1 k x5 x6 (bt635.2.2 != 0) x630000 x630001 x630002 bt635.1 bt635.2.1 bt635.2.2)) else (laws_FnDecides.j1 k x5 x6 true x630000 x630001 x630002 bt635.1 bt635.2.1 bt635.2.2)))) else (some (x630000 == x625000 && (x630001 == x625001 && (x630002 == x625002)))))
def laws_FnDecides.j1 : Nat → Int → Int → Bool → Int → Int → Int → Int → Int → Int → Option (Bool)
 | 0, _, _, _, _, _, _, _, _, _ => none
 | k + 1, x5, x6, x69, x630000, x630001, x630002, x639000, x639001, x639002 => if x69 = true then (some false) else (if x6 = 1 then (if x630000 = x639000 then (some (x630001 == x639001)) else (some false)) else (if x639000 = 4 then (if x630002 = 2 then (some (x630000 == x639000)) else (some false)) else (if x630000 = (wrap64 (x639000 + 1)) then (if x630001 = x5 then (some (x630002 == 0)) else (some false)) else (some false))))
end
def laws_FnDecides.f (k : Nat) (l0 : List Int) : Option (Bool) := (laws_big.f l0).bind fun t614 => (if t614 = true then (some true) else ((spec_DrawDecide.f k l0).bind fun bt615 => ((impl_Decide.f k bt615.1 bt615.2.1 bt615.2.2.1 bt615.2.2.2.1 bt615.2.2.2.2.1 bt615.2.2.2.2.2).bind fun bt625 => ((spec_Decide.f k bt615.1 bt615.2.1 bt615.2.2.1 bt615.2.2.2.1 bt615.2.2.2.2.1 bt615.2.2.2.2.2).bind fun bt630 => (if (bt625.2.2.2 != bt630.2.2.2) = true then (laws_FnDecides.j0 k bt615.2.2.2.2.1 bt615.2.2.2.2.2 bt630.2.2.2 true bt615.1 bt615.2.1 bt615.2.2.1 bt615.2.2.2.1 bt625.1 bt625.2.1 bt625.2.2.1) else (laws_FnDecides.j0 k bt615.2.2.2.2.1 bt615.2.2.2.2.2 bt630.2.2.2 (!(bt625.1 == bt630.1) || (!(bt625.2.1 == bt630.2.1) || (!(bt625.2.2.1 == bt630.2.2.1)))) bt615.1 bt615.2.1 bt615.2.2.1 bt615.2.2.2.1 bt625.1 bt625.2.1 bt625.2.2.1))))))
theorem laws_FnDecides.mono_l : ∀ k, (∀ y0 y1 y2 y3 y4 y5 y6 y7 y8 y9 y10, LeO (laws_FnDecides.j0 k y0 y1 y2 y3 y4 y5 y6 y7 y8 y9 y10) (laws_FnDecides.j0 (k + 1) y0 y1 y2 y3 y4 y5 y6 y7 y8 y9 y10)) ∧ (∀ y0 y1 y2 y3 y4 y5 y6 y7 y8, LeO (laws_FnDecides.j1 k y0 y1 y2 y3 y4 y5 y6 y7 y8) (laws_FnDecides.j1 (k + 1) y0 y1 y2 y3 y4 y5 y6 y7 y8))
 | 0 => ⟨fun _ _ _ _ _ _ _ _ _ _ _ r h => by simp [laws_FnDecides.j0] at h, fun _ _ _ _ _ _ _ _ _ r h => by simp [laws_FnDecides.j1] at h⟩
 | k + 1 => by
  obtain ⟨ih0, ih1⟩ := laws_FnDecides.mono_l k
  refine ⟨?_, ?_⟩
  ·intro y0 y1 y2 y3 y4 y5 y6 y7 y8 y9 y10
   unfold laws_FnDecides.j0
   repeat' first
   | (with_reducible exact ih0 _ _ _ _ _ _ _ _ _ _ _)
   | (with_reducible exact ih1 _ _ _ _ _ _ _ _ _)
   | (with_reducible exact impl_Decide.mono _ _ _ _ _ _ _)
   | (with_reducible exact impl_Elapse.mono _ _ _ _ _ _)
   | (with_reducible exact spec_Decide.mono _ _ _ _ _ _ _)
   | (with_reducible exact spec_DrawDecide.mono _ _)
   | (with_reducible exact LeO.refl _)
   | (with_reducible exact LeO.none _)
   | (with_reducible refine LeO.ite ?_ ?_)
   | (with_reducible refine LeO.bind ?_ (fun _ => ?_))
   | exact ih0 _ _ _ _ _ _ _ _ _ _ _
   | exact ih1 _ _ _ _ _ _ _ _ _
   | exact impl_Decide.mono _ _ _ _ _ _ _
   | exact impl_Elapse.mono _ _ _ _ _ _
   | exact spec_Decide.mono _ _ _ _ _ _ _
   | exact spec_DrawDecide.mono _ _
   | exact LeO.none _
   | refine LeO.ite ?_ ?_
   | refine LeO.bind ?_ (fun _ => ?_)
  ·intro y0 y1 y2 y3 y4 y5 y6 y7 y8
   unfold laws_FnDecides.j1
   repeat' first
   | (with_reducible exact ih0 _ _ _ _ _ _ _ _ _ _ _)
   | (with_reducible exact ih1 _ _ _ _ _ _ _ _ _)
   | (with_reducible exact impl_Decide.mono _ _ _ _ _ _ _)
   | (with_reducible exact impl_Elapse.mono _ _ _ _ _ _)
   | (with_reducible exact spec_Decide.mono _ _ _ _ _ _ _)
   | (with_reducible exact spec_DrawDecide.mono _ _)
   | (with_reducible exact LeO.refl _)
   | (with_reducible exact LeO.none _)
   | (with_reducible refine LeO.ite ?_ ?_)
   | (with_reducible refine LeO.bind ?_ (fun _ => ?_))
   | exact ih0 _ _ _ _ _ _ _ _ _ _ _
   | exact ih1 _ _ _ _ _ _ _ _ _
   | exact impl_Decide.mono _ _ _ _ _ _ _
   | exact impl_Elapse.mono _ _ _ _ _ _
   | exact spec_Decide.mono _ _ _ _ _ _ _
   | exact spec_DrawDecide.mono _ _
   | exact LeO.none _
   | refine LeO.ite ?_ ?_
   | refine LeO.bind ?_ (fun _ => ?_)
theorem laws_FnDecides.mono : ∀ a0 k, LeO (laws_FnDecides.f k a0) (laws_FnDecides.f (k + 1) a0) := by
 intro a0 k
 obtain ⟨ih0, ih1⟩ := laws_FnDecides.mono_l k
 unfold laws_FnDecides.f
 repeat' first
   | (with_reducible exact ih0 _ _ _ _ _ _ _ _ _ _ _)
   | (with_reducible exact ih1 _ _ _ _ _ _ _ _ _)
   | (with_reducible exact impl_Decide.mono _ _ _ _ _ _ _)
   | (with_reducible exact impl_Elapse.mono _ _ _ _ _ _)
   | (with_reducible exact spec_Decide.mono _ _ _ _ _ _ _)
   | (with_reducible exact spec_DrawDecide.mono _ _)
   | (with_reducible exact LeO.refl _)
   | (with_reducible exact LeO.none _)
   | (with_reducible refine LeO.ite ?_ ?_)
   | (with_reducible refine LeO.bind ?_ (fun _ => ?_))
   | exact ih0 _ _ _ _ _ _ _ _ _ _ _
   | exact ih1 _ _ _ _ _ _ _ _ _
   | exact impl_Decide.mono _ _ _ _ _ _ _
   | exact impl_Elapse.mono _ _ _ _ _ _
   | exact spec_Decide.mono _ _ _ _ _ _ _
   | exact spec_DrawDecide.mono _ _
   | exact LeO.none _
   | refine LeO.ite ?_ ?_
   | refine LeO.bind ?_ (fun _ => ?_)
set_option maxHeartbeats 8000000 in
set_option maxRecDepth 100000 in
theorem laws_FnDecides.calls (k : Nat) (A0 : Option Addr) (c0 : Nat) (l0 : List Int) (r : Bool) (w : World) (hr0 : Kd.C (Kd.int .u8) w A0 l0.length l0) (hc0 : l0.length ≤ c0) (hrt : Aside0 (r = true)) (h : laws_FnDecides.f k l0 = some r) :
  Calls Try.prog 12 #[.slice A0 l0.length c0] w fun e w' => e = .returned (.bool r) ∧ Below w.heap.size w w' := by
 have hu53 := Try.underlying53
 have hu39 := Try.underlying39
 have HR0 := Aside0.mk hr0
 have HC0 := Aside0.mk hc0
 clear hr0 hc0
 have HB := Aside0.mk (Below.refl w.heap.size w)
 have H : ((laws_big.f l0).bind fun t614 => (if t614 = true then (some true) else ((spec_DrawDecide.f k l0).bind fun bt615 => ((impl_Decide.f k bt615.1 bt615.2.1 bt615.2.2.1 bt615.2.2.2.1 bt615.2.2.2.2.1 bt615.2.2.2.2.2).bind fun bt625 => ((spec_Decide.f k bt615.1 bt615.2.1 bt615.2.2.1 bt615.2.2.2.1 bt615.2.2.2.2.1 bt615.2.2.2.2.2).bind fun bt630 => (if (bt625.2.2.2 != bt630.2.2.2) = true then (laws_FnDecides.j0 k bt615.2.2.2.2.1 bt615.2.2.2.2.2 bt630.2.2.2 true bt615.1 bt615.2.1 bt615.2.2.1 bt615.2.2.2.1 bt625.1 bt625.2.1 bt625.2.2.1) else (laws_FnDecides.j0 k bt615.2.2.2.2.1 bt615.2.2.2.2.2 bt630.2.2.2 (!(bt625.1 == bt630.1) || (!(bt625.2.1 == bt630.2.1) || (!(bt625.2.2.1 == bt630.2.2.1)))) bt615.1 bt615.2.1 bt615.2.2.1 bt615.2.2.2.1 bt625.1 bt625.2.1 bt625.2.2.1))))))) = some r := h
 clear h
 replace H := Option.bind_eq_some_iff.mp H
 obtain ⟨t614, A20, H⟩ := H
 replace H : (if t614 = true then (some true) else ((spec_DrawDecide.f k l0).bind fun bt615 => ((impl_Decide.f k bt615.1 bt615.2.1 bt615.2.2.1 bt615.2.2.2.1 bt615.2.2.2.2.1 bt615.2.2.2.2.2).bind fun bt625 => ((spec_Decide.f k bt615.1 bt615.2.1 bt615.2.2.1 bt615.2.2.2.1 bt615.2.2.2.2.1 bt615.2.2.2.2.2).bind fun bt630 => (if (bt625.2.2.2 != bt630.2.2.2) = true then (laws_FnDecides.j0 k bt615.2.2.2.2.1 bt615.2.2.2.2.2 bt630.2.2.2 true bt615.1 bt615.2.1 bt615.2.2.1 bt615.2.2.2.1 bt625.1 bt625.2.1 bt625.2.2.1) else (laws_FnDecides.j0 k bt615.2.2.2.2.1 bt615.2.2.2.2.2 bt630.2.2.2 (!(bt625.1 == bt630.1) || (!(bt625.2.1 == bt630.2.1) || (!(bt625.2.2.1 == bt630.2.2.1)))) bt615.1 bt615.2.1 bt615.2.2.1 bt615.2.2.2.1 bt625.1 bt625.2.1 bt625.2.2.1)))))) = some r := H
 have A2 := Aside0.mk A20
 clear A20
 by_cases c3 : t614 = true
 ·subst c3
  have H1 : (some true) = some r := by rw [if_pos rfl] at H; exact H
  clear H
  have H := H1
  clear H1
  obtain rfl := Option.some.inj H
  go_enter Try.func12, Try.ntmps12
  go_wp2_with (first | ((with_reducible refine gate_callee (f := 42) rfl ?_); refine goesL_ (some 13) rfl rfl Try.func42 (by kernel_rfl) rfl #[.slice A0 l0.length c0] rfl (by (try simp only [List.map_toArray, List.map_cons, List.map_nil]); first | done | rfl | (simp only [List.length_drop, List.length_take]; rfl)) ?_; (with_reducible refine (laws_big.calls _ _ l0 true _ ?side1 ?side2 A2.out).mono ?_); (case side1 => repeat (first | exact HR0.out | (with_reducible refine Kd.C_alloc ?_ _) | (with_reducible refine Kd.C_drewN ?_ _) | (with_reducible refine Kd.C_drew ?_))); (case side2 => exact HC0.out); rintro e w' ⟨rfl, ⟨nd, rfl⟩⟩; refine ⟨_, rfl, ?_⟩))
  go_ret
  exact ⟨by first | rfl | (simp [errW_none, errW_some] <;> rfl) | (simp [*, errW_none, errW_some] <;> rfl), by repeat (first | (with_reducible first | exact HB.out | apply below_alloc | apply pw_below_drewN | apply below_drew1) | exact HB.out)⟩
 ·replace c3 := Bool.eq_false_iff.mpr c3
  subst c3
  have H1 : ((spec_DrawDecide.f k l0).bind fun bt615 => ((impl_Decide.f k bt615.1 bt615.2.1 bt615.2.2.1 bt615.2.2.2.1 bt615.2.2.2.2.1 bt615.2.2.2.2.2).bind fun bt625 => ((spec_Decide.f k bt615.1 bt615.2.1 bt615.2.2.1 bt615.2.2.2.1 bt615.2.2.2.2.1 bt615.2.2.2.2.2).bind fun bt630 => (if (bt625.2.2.2 != bt630.2.2.2) = true then (laws_FnDecides.j0 k bt615.2.2.2.2.1 bt615.2.2.2.2.2 bt630.2.2.2 true bt615.1 bt615.2.1 bt615.2.2.1 bt615.2.2.2.1 bt625.1 bt625.2.1 bt625.2.2.1) else (laws_FnDecides.j0 k bt615.2.2.2.2.1 bt615.2.2.2.2.2 bt630.2.2.2 (!(bt625.1 == bt630.1) || (!(bt625.2.1 == bt630.2.1) || (!(bt625.2.2.1 == bt630.2.2.1)))) bt615.1 bt615.2.1 bt615.2.2.1 bt615.2.2.2.1 bt625.1 bt625.2.1 bt625.2.2.1))))) = some r := by rw [if_neg (show ¬ (false = true) by decide)] at H; exact H
  clear H
  have H := H1
  clear H1
  replace H := Option.bind_eq_some_iff.mp H
  obtain ⟨⟨t615, t618, t619, t620, t621, t622⟩, A40, H⟩ := H
  replace H : ((impl_Decide.f k t615 t618 t619 t620 t621 t622).bind fun bt625 => ((spec_Decide.f k t615 t618 t619 t620 t621 t622).bind fun bt630 => (if (bt625.2.2.2 != bt630.2.2.2) = true then (laws_FnDecides.j0 k t621 t622 bt630.2.2.2 true t615 t618 t619 t620 bt625.1 bt625.2.1 bt625.2.2.1) else (laws_FnDecides.j0 k t621 t622 bt630.2.2.2 (!(bt625.1 == bt630.1) || (!(bt625.2.1 == bt630.2.1) || (!(bt625.2.2.1 == bt630.2.2.1)))) t615 t618 t619 t620 bt625.1 bt625.2.1 bt625.2.2.1)))) = some r := H
  have A4 := Aside0.mk A40
  clear A40
  replace H := Option.bind_eq_some_iff.mp H
  obtain ⟨⟨t625, t626, t627, t628⟩, A50, H⟩ := H
  replace H : ((spec_Decide.f k t615 t618 t619 t620 t621 t622).bind fun bt630 => (if (t628 != bt630.2.2.2) = true then (laws_FnDecides.j0 k t621 t622 bt630.2.2.2 true t615 t618 t619 t620 t625 t626 t627) else (laws_FnDecides.j0 k t621 t622 bt630.2.2.2 (!(t625 == bt630.1) || (!(t626 == bt630.2.1) || (!(t627 == bt630.2.2.1)))) t615 t618 t619 t620 t625 t626 t627))) = some r := H
  have A5 := Aside0.mk A50
  clear A50
  replace H := Option.bind_eq_some_iff.mp H
  obtain ⟨⟨t630, t631, t632, t633⟩, A60, H⟩ := H
  replace H : (if (t628 != t633) = true then (laws_FnDecides.j0 k t621 t622 t633 true t615 t618 t619 t620 t625 t626 t627) else (laws_FnDecides.j0 k t621 t622 t633 (!(t625 == t630) || (!(t626 == t631) || (!(t627 == t632)))) t615 t618 t619 t620 t625 t626 t627)) = some r := H
  have A6 := Aside0.mk A60
  clear A60
  have HC7 := Aside0.mk H
  clear H
  go_enter Try.func12, Try.ntmps12
  go_upto_region 6 with (first | ((with_reducible refine gate_callee (f := 42) rfl ?_); refine goesL_ (some 13) rfl rfl Try.func42 (by kernel_rfl) rfl #[.slice A0 l0.length c0] rfl (by (try simp only [List.map_toArray, List.map_cons, List.map_nil]); first | done | rfl | (simp only [List.length_drop, List.length_take]; rfl)) ?_; (with_reducible refine (laws_big.calls _ _ l0 false _ ?side1 ?side2 A2.out).mono ?_); (case side1 => repeat (first | exact HR0.out | (with_reducible refine Kd.C_alloc ?_ _) | (with_reducible refine Kd.C_drewN ?_ _) | (with_reducible refine Kd.C_drew ?_))); (case side2 => exact HC0.out); rintro e w' ⟨rfl, ⟨nd, rfl⟩⟩; refine ⟨_, rfl, ?_⟩) | ((with_reducible refine gate_callee (f := 45) rfl ?_); refine goesL_ (some 16) rfl rfl Try.func45 (by kernel_rfl) rfl #[.slice A0 l0.length c0] rfl (by (try simp only [List.map_toArray, List.map_cons, List.map_nil]); first | done | rfl | (simp only [List.length_drop, List.length_take]; rfl)) ?_; (with_reducible refine (spec_DrawDecide.calls k _ _ l0 t615 t618 t619 t620 t621 t622 _ ?side1 ?side2 A4.out).mono ?_); (case side1 => repeat (first | exact HR0.out | (with_reducible refine Kd.C_alloc ?_ _) | (with_reducible refine Kd.C_drewN ?_ _) | (with_reducible refine Kd.C_drew ?_))); (case side2 => exact HC0.out); rintro e w8 ⟨v616, rfl, ho0, hb⟩; refine ⟨_, rfl, ?_⟩; have n0_ := Aside0.mk (Kd.R_lower ho0 (below_size (by repeat (first | (with_reducible first | exact HB.out | apply below_alloc | apply pw_below_drewN | apply below_drew1) | exact HB.out)))); have n1_ := Aside0.mk (below_step (by repeat (first | (with_reducible first | exact HB.out | apply below_alloc | apply pw_below_drewN | apply below_drew1) | exact HB.out)) hb); clear HB; have HO617 := n0_; have HB := n1_; clear n0_ n1_; (try clear hb); (try clear hb2); (try clear hk); (try clear hi); (try clear ho0)) | ((with_reducible refine gate_dst (N := 3) rfl ?_); refine box_event ?hg (N := 3) ?hd (cs := #[.slice none 0 0]) (t := 53) ?hr ?_; (case hd => rfl); (case hg => rfl); (case hr => first | (go_simp; done) | (go_simp; rfl)); intro gb623 hg w9 hbox hb; have n0_ := Aside0.mk (Kd.R_below (by (with_reducible repeat (first | apply Kd.R_alloc | apply Kd.R_drewN | apply Kd.R_drew)); exact HO617.out) hb); have n1_ := Aside0.mk (below_step (by repeat (first | (with_reducible first | exact HB.out | apply below_alloc | apply pw_below_drewN | apply below_drew1) | exact HB.out)) hb); have n2_ := Aside0.mk (hbox); have n3_ := Aside0.mk ((by rw [hg]; exact (below_size (by repeat (first | (with_reducible first | exact HB.out | apply below_alloc | apply pw_below_drewN | apply below_drew1) | exact HB.out))) : w.heap.size ≤ gb623)); have n4_ := Aside0.mk ((by rw [hg]; exact (below_size (by repeat (first | (with_reducible first | exact HB.out | apply below_alloc | apply pw_below_drewN | apply below_drew1) | exact HB.out))) : w.heap.size ≤ gb623)); clear HO617; clear HB; have HO617 := n0_; have HB := n1_; have BK623 := n2_; have GW623 := n3_; have GE623 := n4_; clear n0_ n1_ n2_ n3_ n4_; clear hb hbox hg) | ((with_reducible refine gate_dst (N := 4) rfl ?_); refine box_event ?hg (N := 4) ?hd (cs := #[.int .i64 0, .int .i64 0, .int .i64 0]) (t := 39) ?hr ?_; (case hd => rfl); (case hg => rfl); (case hr => first | (go_simp; done) | (go_simp; rfl)); intro gb624 hg w10 hbox hb; have n0_ := Aside0.mk (Kd.R_below (by (with_reducible repeat (first | apply Kd.R_alloc | apply Kd.R_drewN | apply Kd.R_drew)); exact HO617.out) hb); have n1_ := Aside0.mk (blk_below (g := gb623) (o := .cells #[.slice none 0 0] 53 (0, 0)) (by (with_reducible repeat (first | refine blk_drewN ?_ _ | refine blk_drew ?_ | refine blk_alloc ?_ _)); exact BK623.out) hb); have n2_ := Aside0.mk (below_step (by repeat (first | (with_reducible first | exact HB.out | apply below_alloc | apply pw_below_drewN | apply below_drew1 | refine below_set ?_ GE623.out) | exact HB.out)) hb); have n3_ := Aside0.mk (hbox); have n4_ := Aside0.mk ((by rw [hg]; exact (below_size (by repeat (first | (with_reducible first | exact HB.out | apply below_alloc | apply pw_below_drewN | apply below_drew1 | refine below_set ?_ GE623.out) | exact HB.out))) : w.heap.size ≤ gb624)); have n5_ := Aside0.mk ((by rw [hg]; exact (below_size (by repeat (first | (with_reducible first | exact HB.out | apply below_alloc | apply pw_below_drewN | apply below_drew1 | refine below_set ?_ GE623.out) | exact HB.out))) : w.heap.size ≤ gb624)); have n6_ := Aside0.mk ((by rw [hg]; exact Nat.ne_of_lt (blk_lt (g := gb623) (o := .cells #[.slice none 0 0] 53 (0, 0)) (by (with_reducible repeat (first | refine blk_drewN ?_ _ | refine blk_drew ?_ | refine blk_alloc ?_ _)); exact BK623.out)) : gb623 ≠ gb624)); have n7_ := Aside0.mk ((by rw [hg]; exact Nat.ne_of_gt (blk_lt (g := gb623) (o := .cells #[.slice none 0 0] 53 (0, 0)) (by (with_reducible repeat (first | refine blk_drewN ?_ _ | refine blk_drew ?_ | refine blk_alloc ?_ _)); exact BK623.out)) : gb624 ≠ gb623)); clear HO617; clear BK623; clear HB; have HO617 := n0_; have BK623 := n1_; have HB := n2_; have BK624 := n3_; have GW624 := n4_; have GE624 := n5_; have NB623_624 := n6_; have NB624_623 := n7_; clear n0_ n1_ n2_ n3_ n4_ n5_ n6_ n7_; clear hb hbox hg; obtain ⟨Ao11, co11, eo11⟩ := Kd.R_slice HO617.out; subst eo11; have hnb12 := NB623_624.out; have hnc12 := NB624_623.out; have hcz13_0 : w10.cell? ⟨gb623, 0, none⟩ = some (.slice none 0 0) := (blk_cell BK623.out 0).trans rfl; have hfz13_0 := blk_frozen BK623.out 0; have hcz14_0 : w10.cell? ⟨gb624, 0, none⟩ = some (.int .i64 0) := (blk_cell BK624.out 0).trans rfl; have hcz14_1 : w10.cell? ⟨gb624, 1, none⟩ = some (.int .i64 0) := (blk_cell BK624.out 1).trans rfl; have hcz14_2 : w10.cell? ⟨gb624, 2, none⟩ = some (.int .i64 0) := (blk_cell BK624.out 2).trans rfl; have hfz14_0 := blk_frozen BK624.out 0; have hfz14_1 := blk_frozen BK624.out 1; have hfz14_2 := blk_frozen BK624.out 2) | ((with_reducible refine gate_callee (f := 41) rfl ?_); refine goesL_ (some 26) rfl rfl Try.func41 (by kernel_rfl) rfl #[.agg #[.slice Ao11 t615.length co11], .agg #[.int .i64 t618, .int .i64 t619, .int .i64 t620], .int .i64 t621, .int .i64 t622] rfl (by (try simp only [List.map_toArray, List.map_cons, List.map_nil]); first | done | rfl | (simp only [List.length_drop, List.length_take]; rfl)) ?_; (with_reducible refine (impl_Decide.calls k _ _ t615 t618 t619 t620 t621 t622 t625 t626 t627 t628 _ ?side1 ?side2 A5.out).mono ?_); (case side1 => refine (Kd.R_reads' (e := 3) (base := w.heap.size) (ok := fun k_ => True) (n := t615.length) (c := co11) ?_).2.2; exact (by (with_reducible repeat (first | apply Kd.R_alloc | apply Kd.R_drewN | apply Kd.R_drew)); exact (Kd.R_mono (Kd.R_mono (Kd.R_far (p := ⟨gb624, 2, none⟩) (Kd.R_far (p := ⟨gb624, 1, none⟩) (Kd.R_far (p := ⟨gb624, 0, none⟩) (Kd.R_far (p := ⟨gb623, 0, none⟩) (Kd.R_types (Kd.R_types HO617.out BK623.out (by decide)) BK624.out (by decide)) (fun _ hk => hk.1.2) (.slice Ao11 t615.length co11)) (fun _ hk => hk.2) (.int .i64 t618)) (fun _ hk => hk.2) (.int .i64 t619)) (fun _ hk => hk.2) (.int .i64 t620)) (fun _ h_ => h_.1)) (fun _ h_ => h_.1)))); (case side2 => exact (Kd.R_reads' HO617.out).2.1); rintro e w15 ⟨rfl, hb⟩; refine ⟨_, rfl, ?_⟩; have n0_ := Aside0.mk (Kd.R_below (by (with_reducible repeat (first | apply Kd.R_alloc | apply Kd.R_drewN | apply Kd.R_drew)); exact (Kd.R_mono (Kd.R_mono (Kd.R_far (p := ⟨gb624, 2, none⟩) (Kd.R_far (p := ⟨gb624, 1, none⟩) (Kd.R_far (p := ⟨gb624, 0, none⟩) (Kd.R_far (p := ⟨gb623, 0, none⟩) (Kd.R_types (Kd.R_types HO617.out BK623.out (by decide)) BK624.out (by decide)) (fun _ hk => hk.1.2) (.slice Ao11 t615.length co11)) (fun _ hk => hk.2) (.int .i64 t618)) (fun _ hk => hk.2) (.int .i64 t619)) (fun _ hk => hk.2) (.int .i64 t620)) (fun _ h_ => h_.1)) (fun _ h_ => h_.1))) hb); have n1_ := Aside0.mk (blk_below (g := gb623) (o := .cells #[.slice Ao11 t615.length co11] 53 (0, 0)) (by (with_reducible repeat (first | refine blk_drewN ?_ _ | refine blk_drew ?_ | refine blk_alloc ?_ _)); refine blk_far ?_ NB623_624.out _; (with_reducible repeat (first | refine blk_drewN ?_ _ | refine blk_drew ?_ | refine blk_alloc ?_ _)); refine blk_far ?_ NB623_624.out _; (with_reducible repeat (first | refine blk_drewN ?_ _ | refine blk_drew ?_ | refine blk_alloc ?_ _)); refine blk_far ?_ NB623_624.out _; (with_reducible repeat (first | refine blk_drewN ?_ _ | refine blk_drew ?_ | refine blk_alloc ?_ _)); refine blk_put (cs := #[.slice none 0 0]) ?_ 0 _ rfl; (with_reducible repeat (first | refine blk_drewN ?_ _ | refine blk_drew ?_ | refine blk_alloc ?_ _)); exact BK623.out) hb); have n2_ := Aside0.mk (blk_below (g := gb624) (o := .cells #[.int .i64 t618, .int .i64 t619, .int .i64 t620] 39 (0, 0)) (by (with_reducible repeat (first | refine blk_drewN ?_ _ | refine blk_drew ?_ | refine blk_alloc ?_ _)); refine blk_put (cs := #[.int .i64 t618, .int .i64 t619, .int .i64 0]) ?_ 2 _ rfl; (with_reducible repeat (first | refine blk_drewN ?_ _ | refine blk_drew ?_ | refine blk_alloc ?_ _)); refine blk_put (cs := #[.int .i64 t618, .int .i64 0, .int .i64 0]) ?_ 1 _ rfl; (with_reducible repeat (first | refine blk_drewN ?_ _ | refine blk_drew ?_ | refine blk_alloc ?_ _)); refine blk_put (cs := #[.int .i64 0, .int .i64 0, .int .i64 0]) ?_ 0 _ rfl; (with_reducible repeat (first | refine blk_drewN ?_ _ | refine blk_drew ?_ | refine blk_alloc ?_ _)); refine blk_far ?_ NB624_623.out _; (with_reducible repeat (first | refine blk_drewN ?_ _ | refine blk_drew ?_ | refine blk_alloc ?_ _)); exact BK624.out) hb); have n3_ := Aside0.mk (below_step (by repeat (first | (with_reducible first | exact HB.out | apply below_alloc | apply pw_below_drewN | apply below_drew1 | refine below_set ?_ GE623.out | refine below_set ?_ GE624.out) | exact HB.out)) hb); clear HO617; clear BK623; clear BK624; clear HB; have HO617 := n0_; have BK623 := n1_; have BK624 := n2_; have HB := n3_; clear n0_ n1_ n2_ n3_; (try clear hb); (try clear hb2); (try clear hk); (try clear hi)) | ((with_reducible refine gate_dst (N := 7) rfl ?_); refine box_event ?hg (N := 7) ?hd (cs := #[.int .i64 0, .int .i64 0, .int .i64 0]) (t := 39) ?hr ?_; (case hd => rfl); (case hg => rfl); (case hr => first | (go_simp; done) | (go_simp; rfl)); intro gb629 hg w16 hbox hb; have n0_ := Aside0.mk (Kd.R_below (by (with_reducible repeat (first | apply Kd.R_alloc | apply Kd.R_drewN | apply Kd.R_drew)); exact HO617.out) hb); have n1_ := Aside0.mk (blk_below (g := gb623) (o := .cells #[.slice Ao11 t615.length co11] 53 (0, 0)) (by (with_reducible repeat (first | refine blk_drewN ?_ _ | refine blk_drew ?_ | refine blk_alloc ?_ _)); exact BK623.out) hb); have n2_ := Aside0.mk (blk_below (g := gb624) (o := .cells #[.int .i64 t618, .int .i64 t619, .int .i64 t620] 39 (0, 0)) (by (with_reducible repeat (first | refine blk_drewN ?_ _ | refine blk_drew ?_ | refine blk_alloc ?_ _)); exact BK624.out) hb); have n3_ := Aside0.mk (below_step (by repeat (first | (with_reducible first | exact HB.out | apply below_alloc | apply pw_below_drewN | apply below_drew1 | refine below_set ?_ GE623.out | refine below_set ?_ GE624.out) | exact HB.out)) hb); have n4_ := Aside0.mk (hbox); have n5_ := Aside0.mk ((by rw [hg]; exact (below_size (by repeat (first | (with_reducible first | exact HB.out | apply below_alloc | apply pw_below_drewN | apply below_drew1 | refine below_set ?_ GE623.out | refine below_set ?_ GE624.out) | exact HB.out))) : w.heap.size ≤ gb629)); have n6_ := Aside0.mk ((by rw [hg]; exact (below_size (by repeat (first | (with_reducible first | exact HB.out | apply below_alloc | apply pw_below_drewN | apply below_drew1 | refine below_set ?_ GE623.out | refine below_set ?_ GE624.out) | exact HB.out))) : w.heap.size ≤ gb629)); have n7_ := Aside0.mk ((by rw [hg]; exact Nat.ne_of_lt (blk_lt (g := gb623) (o := .cells #[.slice Ao11 t615.length co11] 53 (0, 0)) (by (with_reducible repeat (first | refine blk_drewN ?_ _ | refine blk_drew ?_ | refine blk_alloc ?_ _)); exact BK623.out)) : gb623 ≠ gb629)); have n8_ := Aside0.mk ((by rw [hg]; exact Nat.ne_of_gt (blk_lt (g := gb623) (o := .cells #[.slice Ao11 t615.length co11] 53 (0, 0)) (by (with_reducible repeat (first | refine blk_drewN ?_ _ | refine blk_drew ?_ | refine blk_alloc ?_ _)); exact BK623.out)) : gb629 ≠ gb623)); have n9_ := Aside0.mk ((by rw [hg]; exact Nat.ne_of_lt (blk_lt (g := gb624) (o := .cells #[.int .i64 t618, .int .i64 t619, .int .i64 t620] 39 (0, 0)) (by (with_reducible repeat (first | refine blk_drewN ?_ _ | refine blk_drew ?_ | refine blk_alloc ?_ _)); exact BK624.out)) : gb624 ≠ gb629)); have n10_ := Aside0.mk ((by rw [hg]; exact Nat.ne_of_gt (blk_lt (g := gb624) (o := .cells #[.int .i64 t618, .int .i64 t619, .int .i64 t620] 39 (0, 0)) (by (with_reducible repeat (first | refine blk_drewN ?_ _ | refine blk_drew ?_ | refine blk_alloc ?_ _)); exact BK624.out)) : gb629 ≠ gb624)); clear HO617; clear BK623; clear BK624; clear HB; have HO617 := n0_; have BK623 := n1_; have BK624 := n2_; have HB := n3_; have BK629 := n4_; have GW629 := n5_; have GE629 := n6_; have NB623_629 := n7_; have NB629_623 := n8_; have NB624_629 := n9_; have NB629_624 := n10_; clear n0_ n1_ n2_ n3_ n4_ n5_ n6_ n7_ n8_ n9_ n10_; clear hb hbox hg; have hnb17 := NB629_623.out; have hnc17 := NB623_629.out; have hnb18 := NB629_624.out; have hnc18 := NB624_629.out; have hcz19_0 : w16.cell? ⟨gb629, 0, none⟩ = some (.int .i64 0) := (blk_cell BK629.out 0).trans rfl; have hcz19_1 : w16.cell? ⟨gb629, 1, none⟩ = some (.int .i64 0) := (blk_cell BK629.out 1).trans rfl; have hcz19_2 : w16.cell? ⟨gb629, 2, none⟩ = some (.int .i64 0) := (blk_cell BK629.out 2).trans rfl; have hfz19_0 := blk_frozen BK629.out 0; have hfz19_1 := blk_frozen BK629.out 1; have hfz19_2 := blk_frozen BK629.out 2; have hcz20_0 : w16.cell? ⟨gb623, 0, none⟩ = some (.slice Ao11 t615.length co11) := (blk_cell BK623.out 0).trans rfl; have hfz20_0 := blk_frozen BK623.out 0; have hcz21_0 : w16.cell? ⟨gb624, 0, none⟩ = some (.int .i64 t618) := (blk_cell BK624.out 0).trans rfl; have hcz21_1 : w16.cell? ⟨gb624, 1, none⟩ = some (.int .i64 t619) := (blk_cell BK624.out 1).trans rfl; have hcz21_2 : w16.cell? ⟨gb624, 2, none⟩ = some (.int .i64 t620) := (blk_cell BK624.out 2).trans rfl; have hfz21_0 := blk_frozen BK624.out 0; have hfz21_1 := blk_frozen BK624.out 1; have hfz21_2 := blk_frozen BK624.out 2) | ((with_reducible refine gate_callee (f := 40) rfl ?_); refine goesL_ (some 34) rfl rfl Try.func40 (by kernel_rfl) rfl #[.agg #[.slice Ao11 t615.length co11], .agg #[.int .i64 t618, .int .i64 t619, .int .i64 t620], .int .i64 t621, .int .i64 t622] rfl (by (try simp only [List.map_toArray, List.map_cons, List.map_nil]); first | done | rfl | (simp only [List.length_drop, List.length_take]; rfl)) ?_; (with_reducible refine (spec_Decide.calls k _ _ t615 t618 t619 t620 t621 t622 t630 t631 t632 t633 _ ?side1 ?side2 A6.out).mono ?_); (case side1 => refine (Kd.R_reads' (e := 3) (base := w.heap.size) (ok := fun k_ => True) (n := t615.length) (c := co11) ?_).2.2; exact (by (with_reducible repeat (first | apply Kd.R_alloc | apply Kd.R_drewN | apply Kd.R_drew)); exact (Kd.R_mono (Kd.R_far (p := ⟨gb629, 2, none⟩) (Kd.R_far (p := ⟨gb629, 1, none⟩) (Kd.R_far (p := ⟨gb629, 0, none⟩) (Kd.R_types HO617.out BK629.out (by decide)) (fun _ hk => hk.2) (.int .i64 t625)) (fun _ hk => hk.2) (.int .i64 t626)) (fun _ hk => hk.2) (.int .i64 t627)) (fun _ h_ => h_.1)))); (case side2 => exact (Kd.R_reads' HO617.out).2.1); rintro e w22 ⟨rfl, hb⟩; refine ⟨_, rfl, ?_⟩; have n0_ := Aside0.mk (Kd.R_below (by (with_reducible repeat (first | apply Kd.R_alloc | apply Kd.R_drewN | apply Kd.R_drew)); exact (Kd.R_mono (Kd.R_far (p := ⟨gb629, 2, none⟩) (Kd.R_far (p := ⟨gb629, 1, none⟩) (Kd.R_far (p := ⟨gb629, 0, none⟩) (Kd.R_types HO617.out BK629.out (by decide)) (fun _ hk => hk.2) (.int .i64 t625)) (fun _ hk => hk.2) (.int .i64 t626)) (fun _ hk => hk.2) (.int .i64 t627)) (fun _ h_ => h_.1))) hb); have n1_ := Aside0.mk (blk_below (g := gb623) (o := .cells #[.slice Ao11 t615.length co11] 53 (0, 0)) (by (with_reducible repeat (first | refine blk_drewN ?_ _ | refine blk_drew ?_ | refine blk_alloc ?_ _)); refine blk_far ?_ NB623_629.out _; (with_reducible repeat (first | refine blk_drewN ?_ _ | refine blk_drew ?_ | refine blk_alloc ?_ _)); refine blk_far ?_ NB623_629.out _; (with_reducible repeat (first | refine blk_drewN ?_ _ | refine blk_drew ?_ | refine blk_alloc ?_ _)); refine blk_far ?_ NB623_629.out _; (with_reducible repeat (first | refine blk_drewN ?_ _ | refine blk_drew ?_ | refine blk_alloc ?_ _)); exact BK623.out) hb); have n2_ := Aside0.mk (blk_below (g := gb624) (o := .cells #[.int .i64 t618, .int .i64 t619, .int .i64 t620] 39 (0, 0)) (by (with_reducible repeat (first | refine blk_drewN ?_ _ | refine blk_drew ?_ | refine blk_alloc ?_ _)); refine blk_far ?_ NB624_629.out _; (with_reducible repeat (first | refine blk_drewN ?_ _ | refine blk_drew ?_ | refine blk_alloc ?_ _)); refine blk_far ?_ NB624_629.out _; (with_reducible repeat (first | refine blk_drewN ?_ _ | refine blk_drew ?_ | refine blk_alloc ?_ _)); refine blk_far ?_ NB624_629.out _; (with_reducible repeat (first | refine blk_drewN ?_ _ | refine blk_drew ?_ | refine blk_alloc ?_ _)); exact BK624.out) hb); have n3_ := Aside0.mk (blk_below (g := gb629) (o := .cells #[.int .i64 t625, .int .i64 t626, .int .i64 t627] 39 (0, 0)) (by (with_reducible repeat (first | refine blk_drewN ?_ _ | refine blk_drew ?_ | refine blk_alloc ?_ _)); refine blk_put (cs := #[.int .i64 t625, .int .i64 t626, .int .i64 0]) ?_ 2 _ rfl; (with_reducible repeat (first | refine blk_drewN ?_ _ | refine blk_drew ?_ | refine blk_alloc ?_ _)); refine blk_put (cs := #[.int .i64 t625, .int .i64 0, .int .i64 0]) ?_ 1 _ rfl; (with_reducible repeat (first | refine blk_drewN ?_ _ | refine blk_drew ?_ | refine blk_alloc ?_ _)); refine blk_put (cs := #[.int .i64 0, .int .i64 0, .int .i64 0]) ?_ 0 _ rfl; (with_reducible repeat (first | refine blk_drewN ?_ _ | refine blk_drew ?_ | refine blk_alloc ?_ _)); exact BK629.out) hb); have n4_ := Aside0.mk (below_step (by repeat (first | (with_reducible first | exact HB.out | apply below_alloc | apply pw_below_drewN | apply below_drew1 | refine below_set ?_ GE623.out | refine below_set ?_ GE624.out | refine below_set ?_ GE629.out) | exact HB.out)) hb); clear HO617; clear BK623; clear BK624; clear BK629; clear HB; have HO617 := n0_; have BK623 := n1_; have BK624 := n2_; have BK629 := n3_; have HB := n4_; clear n0_ n1_ n2_ n3_ n4_; (try clear hb); (try clear hb2); (try clear hk); (try clear hi)) | ((with_reducible refine gate_dst (N := 9) rfl ?_); refine box_event ?hg (N := 9) ?hd (cs := #[.int .i64 0, .int .i64 0, .int .i64 0]) (t := 39) ?hr ?_; (case hd => rfl); (case hg => rfl); (case hr => first | (go_simp; done) | (go_simp; rfl)); intro gb634 hg w23 hbox hb; have n0_ := Aside0.mk (Kd.R_below (by (with_reducible repeat (first | apply Kd.R_alloc | apply Kd.R_drewN | apply Kd.R_drew)); exact HO617.out) hb); have n1_ := Aside0.mk (blk_below (g := gb623) (o := .cells #[.slice Ao11 t615.length co11] 53 (0, 0)) (by (with_reducible repeat (first | refine blk_drewN ?_ _ | refine blk_drew ?_ | refine blk_alloc ?_ _)); exact BK623.out) hb); have n2_ := Aside0.mk (blk_below (g := gb624) (o := .cells #[.int .i64 t618, .int .i64 t619, .int .i64 t620] 39 (0, 0)) (by (with_reducible repeat (first | refine blk_drewN ?_ _ | refine blk_drew ?_ | refine blk_alloc ?_ _)); exact BK624.out) hb); have n3_ := Aside0.mk (blk_below (g := gb629) (o := .cells #[.int .i64 t625, .int .i64 t626, .int .i64 t627] 39 (0, 0)) (by (with_reducible repeat (first | refine blk_drewN ?_ _ | refine blk_drew ?_ | refine blk_alloc ?_ _)); exact BK629.out) hb); have n4_ := Aside0.mk (below_step (by repeat (first | (with_reducible first | exact HB.out | apply below_alloc | apply pw_below_drewN | apply below_drew1 | refine below_set ?_ GE623.out | refine below_set ?_ GE624.out | refine below_set ?_ GE629.out) | exact HB.out)) hb); have n5_ := Aside0.mk (hbox); have n6_ := Aside0.mk ((by rw [hg]; exact (below_size (by repeat (first | (with_reducible first | exact HB.out | apply below_alloc | apply pw_below_drewN | apply below_drew1 | refine below_set ?_ GE623.out | refine below_set ?_ GE624.out | refine below_set ?_ GE629.out) | exact HB.out))) : w.heap.size ≤ gb634)); have n7_ := Aside0.mk ((by rw [hg]; exact (below_size (by repeat (first | (with_reducible first | exact HB.out | apply below_alloc | apply pw_below_drewN | apply below_drew1 | refine below_set ?_ GE623.out | refine below_set ?_ GE624.out | refine below_set ?_ GE629.out) | exact HB.out))) : w.heap.size ≤ gb634)); have n8_ := Aside0.mk ((by rw [hg]; exact Nat.ne_of_lt (blk_lt (g := gb623) (o := .cells #[.slice Ao11 t615.length co11] 53 (0, 0)) (by (with_reducible repeat (first | refine blk_drewN ?_ _ | refine blk_drew ?_ | refine blk_alloc ?_ _)); exact BK623.out)) : gb623 ≠ gb634)); have n9_ := Aside0.mk ((by rw [hg]; exact Nat.ne_of_gt (blk_lt (g := gb623) (o := .cells #[.slice Ao11 t615.length co11] 53 (0, 0)) (by (with_reducible repeat (first | refine blk_drewN ?_ _ | refine blk_drew ?_ | refine blk_alloc ?_ _)); exact BK623.out)) : gb634 ≠ gb623)); have n10_ := Aside0.mk ((by rw [hg]; exact Nat.ne_of_lt (blk_lt (g := gb624) (o := .cells #[.int .i64 t618, .int .i64 t619, .int .i64 t620] 39 (0, 0)) (by (with_reducible repeat (first | refine blk_drewN ?_ _ | refine blk_drew ?_ | refine blk_alloc ?_ _)); exact BK624.out)) : gb624 ≠ gb634)); have n11_ := Aside0.mk ((by rw [hg]; exact Nat.ne_of_gt (blk_lt (g := gb624) (o := .cells #[.int .i64 t618, .int .i64 t619, .int .i64 t620] 39 (0, 0)) (by (with_reducible repeat (first | refine blk_drewN ?_ _ | refine blk_drew ?_ | refine blk_alloc ?_ _)); exact BK624.out)) : gb634 ≠ gb624)); have n12_ := Aside0.mk ((by rw [hg]; exact Nat.ne_of_lt (blk_lt (g := gb629) (o := .cells #[.int .i64 t625, .int .i64 t626, .int .i64 t627] 39 (0, 0)) (by (with_reducible repeat (first | refine blk_drewN ?_ _ | refine blk_drew ?_ | refine blk_alloc ?_ _)); exact BK629.out)) : gb629 ≠ gb634)); have n13_ := Aside0.mk ((by rw [hg]; exact Nat.ne_of_gt (blk_lt (g := gb629) (o := .cells #[.int .i64 t625, .int .i64 t626, .int .i64 t627] 39 (0, 0)) (by (with_reducible repeat (first | refine blk_drewN ?_ _ | refine blk_drew ?_ | refine blk_alloc ?_ _)); exact BK629.out)) : gb634 ≠ gb629)); clear HO617; clear BK623; clear BK624; clear BK629; clear HB; have HO617 := n0_; have BK623 := n1_; have BK624 := n2_; have BK629 := n3_; have HB := n4_; have BK634 := n5_; have GW634 := n6_; have GE634 := n7_; have NB623_634 := n8_; have NB634_623 := n9_; have NB624_634 := n10_; have NB634_624 := n11_; have NB629_634 := n12_; have NB634_629 := n13_; clear n0_ n1_ n2_ n3_ n4_ n5_ n6_ n7_ n8_ n9_ n10_ n11_ n12_ n13_; clear hb hbox hg; have hnb24 := NB634_623.out; have hnc24 := NB623_634.out; have hnb25 := NB634_624.out; have hnc25 := NB624_634.out; have hnb26 := NB634_629.out; have hnc26 := NB629_634.out; have hcz27_0 : w23.cell? ⟨gb634, 0, none⟩ = some (.int .i64 0) := (blk_cell BK634.out 0).trans rfl; have hcz27_1 : w23.cell? ⟨gb634, 1, none⟩ = some (.int .i64 0) := (blk_cell BK634.out 1).trans rfl; have hcz27_2 : w23.cell? ⟨gb634, 2, none⟩ = some (.int .i64 0) := (blk_cell BK634.out 2).trans rfl; have hfz27_0 := blk_frozen BK634.out 0; have hfz27_1 := blk_frozen BK634.out 1; have hfz27_2 := blk_frozen BK634.out 2))
  (try simp only [Act.put, List.setIfInBounds_toArray, List.set_cons_zero, List.set_cons_succ])
  go_cut [44] (fun v44 wc => ∃ (kq : Nat) (x44_6 : Bool), v44 = .bool x44_6 ∧ Aside0 (laws_FnDecides.j0 kq t621 t622 t633 x44_6 t615 t618 t619 t620 t625 t626 t627 = some r) ∧ Aside0 (kq ≤ k) ∧ Aside0 (Kd.R (Kd.int .i64) 3 wc w.heap.size (fun _ => True) (.slice Ao11 t615.length co11) t615) ∧ Aside0 (wc.heap[gb623]? = some (.cells #[(.slice Ao11 t615.length co11)] 53 (0, 0))) ∧ Aside0 (wc.heap[gb624]? = some (.cells #[.int .i64 t618, .int .i64 t619, .int .i64 t620] 39 (0, 0))) ∧ Aside0 (wc.heap[gb629]? = some (.cells #[.int .i64 t625, .int .i64 t626, .int .i64 t627] 39 (0, 0))) ∧ Aside0 (wc.heap[gb634]? = some (.cells #[.int .i64 t630, .int .i64 t631, .int .i64 t632] 39 (0, 0))) ∧ Aside0 (Below w.heap.size w wc))
  case first =>
   have H := HC7.out
   clear HC7
   by_cases c28 : (t628 != t633) = true
   ·rw [if_pos c28] at H
    have c28b0 : (t628 != t633) = true := c28
    (try (have c28b1 : decide (t628 = t633) = false := by simpa using c28))
    (try (have c28b2 : (t628 == t633) = false := by simpa using c28))
    (try (have c28b3 : ¬ (t628 = t633) := by simpa using c28))
    clear c28
    (first | rw [c28b0] | (simp only [i64_w, i32_w]; rw [c28b0]) | skip)
    exact absurd (H.trans (congrArg some hrt.out)) (by cases k <;> simp [laws_FnDecides.j0])
   ·rw [if_neg c28] at H
    have c28b0 : (t628 != t633) = false := by simpa using c28
    (try (have c28b1 : decide (t628 = t633) = true := by simpa using c28))
    (try (have c28b2 : (t628 == t633) = true := by simpa using c28))
    clear c28
    (first | rw [c28b0] | (simp only [i64_w, i32_w]; rw [c28b0]) | skip)
    have H' := Aside0.mk H
    clear H
    have hnb29 := NB629_623.out
    have hnc29 := NB623_629.out
    have hnb30 := NB629_624.out
    have hnc30 := NB624_629.out
    have hnb31 := NB629_634.out
    have hnc31 := NB634_629.out
    have hcz32_0 : w23.cell? ⟨gb629, 0, none⟩ = some (.int .i64 t625) := (blk_cell BK629.out 0).trans rfl
    have hcz32_1 : w23.cell? ⟨gb629, 1, none⟩ = some (.int .i64 t626) := (blk_cell BK629.out 1).trans rfl
    have hcz32_2 : w23.cell? ⟨gb629, 2, none⟩ = some (.int .i64 t627) := (blk_cell BK629.out 2).trans rfl
    have hfz32_0 := blk_frozen BK629.out 0
    have hfz32_1 := blk_frozen BK629.out 1
    have hfz32_2 := blk_frozen BK629.out 2
    have hnb33 := NB634_623.out
    have hnc33 := NB623_634.out
    have hnb34 := NB634_624.out
    have hnc34 := NB624_634.out
    have hcz35_0 : w23.cell? ⟨gb634, 0, none⟩ = some (.int .i64 0) := (blk_cell BK634.out 0).trans rfl
    have hcz35_1 : w23.cell? ⟨gb634, 1, none⟩ = some (.int .i64 0) := (blk_cell BK634.out 1).trans rfl
    have hcz35_2 : w23.cell? ⟨gb634, 2, none⟩ = some (.int .i64 0) := (blk_cell BK634.out 2).trans rfl
    have hfz35_0 := blk_frozen BK634.out 0
    have hfz35_1 := blk_frozen BK634.out 1
    have hfz35_2 := blk_frozen BK634.out 2
    go_wp2
    go_meet
    case rel => exact ⟨_, ((!(t625 == t630) || (!(t626 == t631) || (!(t627 == t632))))), (by first | rfl | (simp; done) | (simp [*]; done)), H', ⟨by first | omega | exact Nat.le_refl _⟩, ⟨by (with_reducible repeat (first | apply Kd.R_alloc | apply Kd.R_drewN | apply Kd.R_drew)); exact Kd.R_mono (Kd.R_far (p := ⟨gb634, 2, none⟩) (Kd.R_far (p := ⟨gb634, 1, none⟩) (Kd.R_far (p := ⟨gb634, 0, none⟩) (Kd.R_types HO617.out BK634.out (by decide)) (fun _ hk => hk.2) (.int .i64 t630)) (fun _ hk => hk.2) (.int .i64 t631)) (fun _ hk => hk.2) (.int .i64 t632)) (fun _ hk => trivial)⟩, ⟨by (with_reducible repeat (first | refine blk_drewN ?_ _ | refine blk_drew ?_ | refine blk_alloc ?_ _)); refine blk_far ?_ NB623_634.out _; (with_reducible repeat (first | refine blk_drewN ?_ _ | refine blk_drew ?_ | refine blk_alloc ?_ _)); refine blk_far ?_ NB623_634.out _; (with_reducible repeat (first | refine blk_drewN ?_ _ | refine blk_drew ?_ | refine blk_alloc ?_ _)); refine blk_far ?_ NB623_634.out _; (with_reducible repeat (first | refine blk_drewN ?_ _ | refine blk_drew ?_ | refine blk_alloc ?_ _)); exact BK623.out⟩, ⟨by (with_reducible repeat (first | refine blk_drewN ?_ _ | refine blk_drew ?_ | refine blk_alloc ?_ _)); refine blk_far ?_ NB624_634.out _; (with_reducible repeat (first | refine blk_drewN ?_ _ | refine blk_drew ?_ | refine blk_alloc ?_ _)); refine blk_far ?_ NB624_634.out _; (with_reducible repeat (first | refine blk_drewN ?_ _ | refine blk_drew ?_ | refine blk_alloc ?_ _)); refine blk_far ?_ NB624_634.out _; (with_reducible repeat (first | refine blk_drewN ?_ _ | refine blk_drew ?_ | refine blk_alloc ?_ _)); exact BK624.out⟩, ⟨by (with_reducible repeat (first | refine blk_drewN ?_ _ | refine blk_drew ?_ | refine blk_alloc ?_ _)); refine blk_far ?_ NB629_634.out _; (with_reducible repeat (first | refine blk_drewN ?_ _ | refine blk_drew ?_ | refine blk_alloc ?_ _)); refine blk_far ?_ NB629_634.out _; (with_reducible repeat (first | refine blk_drewN ?_ _ | refine blk_drew ?_ | refine blk_alloc ?_ _)); refine blk_far ?_ NB629_634.out _; (with_reducible repeat (first | refine blk_drewN ?_ _ | refine blk_drew ?_ | refine blk_alloc ?_ _)); exact BK629.out⟩, ⟨by (with_reducible repeat (first | refine blk_drewN ?_ _ | refine blk_drew ?_ | refine blk_alloc ?_ _)); refine blk_put (cs := #[.int .i64 t630, .int .i64 t631, .int .i64 0]) ?_ 2 _ rfl; (with_reducible repeat (first | refine blk_drewN ?_ _ | refine blk_drew ?_ | refine blk_alloc ?_ _)); refine blk_put (cs := #[.int .i64 t630, .int .i64 0, .int .i64 0]) ?_ 1 _ rfl; (with_reducible repeat (first | refine blk_drewN ?_ _ | refine blk_drew ?_ | refine blk_alloc ?_ _)); refine blk_put (cs := #[.int .i64 0, .int .i64 0, .int .i64 0]) ?_ 0 _ rfl; (with_reducible repeat (first | refine blk_drewN ?_ _ | refine blk_drew ?_ | refine blk_alloc ?_ _)); exact BK634.out⟩, ⟨by repeat (first | (with_reducible first | exact HB.out | apply below_alloc | apply pw_below_drewN | apply below_drew1 | refine below_set ?_ GE623.out | refine below_set ?_ GE624.out | refine below_set ?_ GE629.out | refine below_set ?_ GE634.out) | exact HB.out)⟩⟩
  case rest =>
   clear HC7
   try clear c1
   try clear c2
   try clear p2
   try clear c3
   try clear c4
   try clear c12
   try clear c17
   try clear c18
   try clear c24
   try clear c25
   try clear c26
   try clear c28
   try clear c28b0
   try clear c28b1
   try clear c28b2
   try clear c29
   try clear c30
   try clear c31
   try clear c33
   try clear c34
   try clear hcz13_0
   try clear hcz14_0
   try clear hcz14_1
   try clear hcz14_2
   try clear hcz19_0
   try clear hcz19_1
   try clear hcz19_2
   try clear hcz20_0
   try clear hcz21_0
   try clear hcz21_1
   try clear hcz21_2
   try clear hcz27_0
   try clear hcz27_1
   try clear hcz27_2
   try clear hcz32_0
   try clear hcz32_1
   try clear hcz32_2
   try clear hcz35_0
   try clear hcz35_1
   try clear hcz35_2
   try clear hfz13_0
   try clear hfz14_0
   try clear hfz14_1
   try clear hfz14_2
   try clear hfz19_0
   try clear hfz19_1
   try clear hfz19_2
   try clear hfz20_0
   try clear hfz21_0
   try clear hfz21_1
   try clear hfz21_2
   try clear hfz27_0
   try clear hfz27_1
   try clear hfz27_2
   try clear hfz32_0
   try clear hfz32_1
   try clear hfz32_2
   try clear hfz35_0
   try clear hfz35_1
   try clear hfz35_2
   obtain ⟨kq, x44_6, rfl, HA, HJ6, HO_624000, BK623, BK624, BK629, BK634, HB⟩ := hcut
   cases kq with
   | zero => exact absurd HA.out (by simp [laws_FnDecides.j0])
   | succ kj6 =>
    have H := HA.out
    clear HA
    simp only [laws_FnDecides.j0] at H
    by_cases c36 : x44_6 = true
    ·subst c36
     have H1 : (some false) = some r := by rw [if_pos rfl] at H; exact H
     clear H
     have H := H1
     clear H1
     exact absurd (H.trans (congrArg some hrt.out)) (by simp)
    ·replace c36 := Bool.eq_false_iff.mpr c36
     subst c36
     have H1 : (if t633 = true then ((impl_Elapse.f kj6 t615 t618 t619 t620 t621).bind fun bt635 => ((impl_ScreenOk.f t625 t626 t627).bind fun t639 => (if t639 = true then (if ((t627 == 1) != (t622 == 1)) = true then (laws_FnDecides.j1 kj6 t621 t622 true t625 t626 t627 bt635.1 bt635.2.1 bt635.2.2) else (laws_FnDecides.j1 kj6 t621 t622 (bt635.2.2 != 0) t625 t626 t627 bt635.1 bt635.2.1 bt635.2.2)) else (laws_FnDecides.j1 kj6 t621 t622 true t625 t626 t627 bt635.1 bt635.2.1 bt635.2.2)))) else (some (t625 == t618 && (t626 == t619 && (t627 == t620))))) = some r := by rw [if_neg (show ¬ (false = true) by decide)] at H; exact H
     clear H
     have H := H1
     clear H1
     by_cases c37 : t633 = true
     ·subst c37
      have H1 : ((impl_Elapse.f kj6 t615 t618 t619 t620 t621).bind fun bt635 => ((impl_ScreenOk.f t625 t626 t627).bind fun t639 => (if t639 = true then (if ((t627 == 1) != (t622 == 1)) = true then (laws_FnDecides.j1 kj6 t621 t622 true t625 t626 t627 bt635.1 bt635.2.1 bt635.2.2) else (laws_FnDecides.j1 kj6 t621 t622 (bt635.2.2 != 0) t625 t626 t627 bt635.1 bt635.2.1 bt635.2.2)) else (laws_FnDecides.j1 kj6 t621 t622 true t625 t626 t627 bt635.1 bt635.2.1 bt635.2.2)))) = some r := by rw [if_pos rfl] at H; exact H
      clear H
      have H := H1
      clear H1
      replace H := Option.bind_eq_some_iff.mp H
      obtain ⟨⟨t635, t636, t637⟩, A380, H⟩ := H
      replace H : ((impl_ScreenOk.f t625 t626 t627).bind fun t639 => (if t639 = true then (if ((t627 == 1) != (t622 == 1)) = true then (laws_FnDecides.j1 kj6 t621 t622 true t625 t626 t627 t635 t636 t637) else (laws_FnDecides.j1 kj6 t621 t622 (t637 != 0) t625 t626 t627 t635 t636 t637)) else (laws_FnDecides.j1 kj6 t621 t622 true t625 t626 t627 t635 t636 t637))) = some r := H
      have A38 := Aside0.mk A380
      clear A380
      have HC39 := Aside0.mk H
      clear H
      have hnb40 := NB623_624.out
      have hnc40 := NB624_623.out
      have hnb41 := NB623_629.out
      have hnc41 := NB629_623.out
      have hnb42 := NB623_634.out
      have hnc42 := NB634_623.out
      have hcz43_0 : wc.cell? ⟨gb623, 0, none⟩ = some (.slice Ao11 t615.length co11) := (blk_cell BK623.out 0).trans rfl
      have hfz43_0 := blk_frozen BK623.out 0
      have hnb44 := NB624_629.out
      have hnc44 := NB629_624.out
      have hnb45 := NB624_634.out
      have hnc45 := NB634_624.out
      have hcz46_0 : wc.cell? ⟨gb624, 0, none⟩ = some (.int .i64 t618) := (blk_cell BK624.out 0).trans rfl
      have hcz46_1 : wc.cell? ⟨gb624, 1, none⟩ = some (.int .i64 t619) := (blk_cell BK624.out 1).trans rfl
      have hcz46_2 : wc.cell? ⟨gb624, 2, none⟩ = some (.int .i64 t620) := (blk_cell BK624.out 2).trans rfl
      have hfz46_0 := blk_frozen BK624.out 0
      have hfz46_1 := blk_frozen BK624.out 1
      have hfz46_2 := blk_frozen BK624.out 2
      go_upto_region 11 with (first | ((with_reducible refine gate_callee (f := 36) rfl ?_); refine goesL_ (some 53) rfl rfl Try.func36 (by kernel_rfl) rfl #[.agg #[.slice Ao11 t615.length co11], .agg #[.int .i64 t618, .int .i64 t619, .int .i64 t620], .int .i64 t621] rfl (by (try simp only [List.map_toArray, List.map_cons, List.map_nil]); first | done | rfl | (simp only [List.length_drop, List.length_take]; rfl)) ?_; (with_reducible refine (impl_Elapse.calls kj6 _ _ t615 t618 t619 t620 t621 t635 t636 t637 _ ?side1 ?side2 A38.out).mono ?_); (case side1 => repeat (first | exact (Kd.R_reads' HO_624000.out).2.2 | (with_reducible refine Kd.C_alloc ?_ _) | (with_reducible refine Kd.C_drewN ?_ _) | (with_reducible refine Kd.C_drew ?_))); (case side2 => exact (Kd.R_reads' HO_624000.out).2.1); rintro e w47 ⟨rfl, hb⟩; refine ⟨_, rfl, ?_⟩; have n0_ := Aside0.mk (Kd.R_below (by (with_reducible repeat (first | apply Kd.R_alloc | apply Kd.R_drewN | apply Kd.R_drew)); exact HO_624000.out) hb); have n1_ := Aside0.mk (blk_below (g := gb623) (o := .cells #[.slice Ao11 t615.length co11] 53 (0, 0)) (by (with_reducible repeat (first | refine blk_drewN ?_ _ | refine blk_drew ?_ | refine blk_alloc ?_ _)); exact BK623.out) hb); have n2_ := Aside0.mk (blk_below (g := gb624) (o := .cells #[.int .i64 t618, .int .i64 t619, .int .i64 t620] 39 (0, 0)) (by (with_reducible repeat (first | refine blk_drewN ?_ _ | refine blk_drew ?_ | refine blk_alloc ?_ _)); exact BK624.out) hb); have n3_ := Aside0.mk (blk_below (g := gb629) (o := .cells #[.int .i64 t625, .int .i64 t626, .int .i64 t627] 39 (0, 0)) (by (with_reducible repeat (first | refine blk_drewN ?_ _ | refine blk_drew ?_ | refine blk_alloc ?_ _)); exact BK629.out) hb); have n4_ := Aside0.mk (blk_below (g := gb634) (o := .cells #[.int .i64 t630, .int .i64 t631, .int .i64 t632] 39 (0, 0)) (by (with_reducible repeat (first | refine blk_drewN ?_ _ | refine blk_drew ?_ | refine blk_alloc ?_ _)); exact BK634.out) hb); have n5_ := Aside0.mk (below_step (by repeat (first | (with_reducible first | exact HB.out | apply below_alloc | apply pw_below_drewN | apply below_drew1 | refine below_set ?_ GE623.out | refine below_set ?_ GE624.out | refine below_set ?_ GE629.out | refine below_set ?_ GE634.out) | exact HB.out)) hb); clear HO_624000; clear BK623; clear BK624; clear BK629; clear BK634; clear HB; have HO_624000 := n0_; have BK623 := n1_; have BK624 := n2_; have BK629 := n3_; have BK634 := n4_; have HB := n5_; clear n0_ n1_ n2_ n3_ n4_ n5_; (try clear hb); (try clear hb2); (try clear hk); (try clear hi)) | ((with_reducible refine gate_dst (N := 11) rfl ?_); refine box_event ?hg (N := 11) ?hd (cs := #[.int .i64 0, .int .i64 0, .int .i64 0]) (t := 39) ?hr ?_; (case hd => rfl); (case hg => rfl); (case hr => first | (go_simp; done) | (go_simp; rfl)); intro gb638 hg w48 hbox hb; have n0_ := Aside0.mk (Kd.R_below (by (with_reducible repeat (first | apply Kd.R_alloc | apply Kd.R_drewN | apply Kd.R_drew)); exact HO_624000.out) hb); have n1_ := Aside0.mk (blk_below (g := gb623) (o := .cells #[.slice Ao11 t615.length co11] 53 (0, 0)) (by (with_reducible repeat (first | refine blk_drewN ?_ _ | refine blk_drew ?_ | refine blk_alloc ?_ _)); exact BK623.out) hb); have n2_ := Aside0.mk (blk_below (g := gb624) (o := .cells #[.int .i64 t618, .int .i64 t619, .int .i64 t620] 39 (0, 0)) (by (with_reducible repeat (first | refine blk_drewN ?_ _ | refine blk_drew ?_ | refine blk_alloc ?_ _)); exact BK624.out) hb); have n3_ := Aside0.mk (blk_below (g := gb629) (o := .cells #[.int .i64 t625, .int .i64 t626, .int .i64 t627] 39 (0, 0)) (by (with_reducible repeat (first | refine blk_drewN ?_ _ | refine blk_drew ?_ | refine blk_alloc ?_ _)); exact BK629.out) hb); have n4_ := Aside0.mk (blk_below (g := gb634) (o := .cells #[.int .i64 t630, .int .i64 t631, .int .i64 t632] 39 (0, 0)) (by (with_reducible repeat (first | refine blk_drewN ?_ _ | refine blk_drew ?_ | refine blk_alloc ?_ _)); exact BK634.out) hb); have n5_ := Aside0.mk (below_step (by repeat (first | (with_reducible first | exact HB.out | apply below_alloc | apply pw_below_drewN | apply below_drew1 | refine below_set ?_ GE623.out | refine below_set ?_ GE624.out | refine below_set ?_ GE629.out | refine below_set ?_ GE634.out) | exact HB.out)) hb); have n6_ := Aside0.mk (hbox); have n7_ := Aside0.mk ((by rw [hg]; exact (below_size (by repeat (first | (with_reducible first | exact HB.out | apply below_alloc | apply pw_below_drewN | apply below_drew1 | refine below_set ?_ GE623.out | refine below_set ?_ GE624.out | refine below_set ?_ GE629.out | refine below_set ?_ GE634.out) | exact HB.out))) : w.heap.size ≤ gb638)); have n8_ := Aside0.mk ((by rw [hg]; exact (below_size (by repeat (first | (with_reducible first | exact HB.out | apply below_alloc | apply pw_below_drewN | apply below_drew1 | refine below_set ?_ GE623.out | refine below_set ?_ GE624.out | refine below_set ?_ GE629.out | refine below_set ?_ GE634.out) | exact HB.out))) : w.heap.size ≤ gb638)); have n9_ := Aside0.mk ((by rw [hg]; exact Nat.ne_of_lt (blk_lt (g := gb623) (o := .cells #[.slice Ao11 t615.length co11] 53 (0, 0)) (by (with_reducible repeat (first | refine blk_drewN ?_ _ | refine blk_drew ?_ | refine blk_alloc ?_ _)); exact BK623.out)) : gb623 ≠ gb638)); have n10_ := Aside0.mk ((by rw [hg]; exact Nat.ne_of_gt (blk_lt (g := gb623) (o := .cells #[.slice Ao11 t615.length co11] 53 (0, 0)) (by (with_reducible repeat (first | refine blk_drewN ?_ _ | refine blk_drew ?_ | refine blk_alloc ?_ _)); exact BK623.out)) : gb638 ≠ gb623)); have n11_ := Aside0.mk ((by rw [hg]; exact Nat.ne_of_lt (blk_lt (g := gb624) (o := .cells #[.int .i64 t618, .int .i64 t619, .int .i64 t620] 39 (0, 0)) (by (with_reducible repeat (first | refine blk_drewN ?_ _ | refine blk_drew ?_ | refine blk_alloc ?_ _)); exact BK624.out)) : gb624 ≠ gb638)); have n12_ := Aside0.mk ((by rw [hg]; exact Nat.ne_of_gt (blk_lt (g := gb624) (o := .cells #[.int .i64 t618, .int .i64 t619, .int .i64 t620] 39 (0, 0)) (by (with_reducible repeat (first | refine blk_drewN ?_ _ | refine blk_drew ?_ | refine blk_alloc ?_ _)); exact BK624.out)) : gb638 ≠ gb624)); have n13_ := Aside0.mk ((by rw [hg]; exact Nat.ne_of_lt (blk_lt (g := gb629) (o := .cells #[.int .i64 t625, .int .i64 t626, .int .i64 t627] 39 (0, 0)) (by (with_reducible repeat (first | refine blk_drewN ?_ _ | refine blk_drew ?_ | refine blk_alloc ?_ _)); exact BK629.out)) : gb629 ≠ gb638)); have n14_ := Aside0.mk ((by rw [hg]; exact Nat.ne_of_gt (blk_lt (g := gb629) (o := .cells #[.int .i64 t625, .int .i64 t626, .int .i64 t627] 39 (0, 0)) (by (with_reducible repeat (first | refine blk_drewN ?_ _ | refine blk_drew ?_ | refine blk_alloc ?_ _)); exact BK629.out)) : gb638 ≠ gb629)); have n15_ := Aside0.mk ((by rw [hg]; exact Nat.ne_of_lt (blk_lt (g := gb634) (o := .cells #[.int .i64 t630, .int .i64 t631, .int .i64 t632] 39 (0, 0)) (by (with_reducible repeat (first | refine blk_drewN ?_ _ | refine blk_drew ?_ | refine blk_alloc ?_ _)); exact BK634.out)) : gb634 ≠ gb638)); have n16_ := Aside0.mk ((by rw [hg]; exact Nat.ne_of_gt (blk_lt (g := gb634) (o := .cells #[.int .i64 t630, .int .i64 t631, .int .i64 t632] 39 (0, 0)) (by (with_reducible repeat (first | refine blk_drewN ?_ _ | refine blk_drew ?_ | refine blk_alloc ?_ _)); exact BK634.out)) : gb638 ≠ gb634)); clear HO_624000; clear BK623; clear BK624; clear BK629; clear BK634; clear HB; have HO_624000 := n0_; have BK623 := n1_; have BK624 := n2_; have BK629 := n3_; have BK634 := n4_; have HB := n5_; have BK638 := n6_; have GW638 := n7_; have GE638 := n8_; have NB623_638 := n9_; have NB638_623 := n10_; have NB624_638 := n11_; have NB638_624 := n12_; have NB629_638 := n13_; have NB638_629 := n14_; have NB634_638 := n15_; have NB638_634 := n16_; clear n0_ n1_ n2_ n3_ n4_ n5_ n6_ n7_ n8_ n9_ n10_ n11_ n12_ n13_ n14_ n15_ n16_; clear hb hbox hg; have hnb49 := NB638_623.out; have hnc49 := NB623_638.out; have hnb50 := NB638_624.out; have hnc50 := NB624_638.out; have hnb51 := NB638_629.out; have hnc51 := NB629_638.out; have hnb52 := NB638_634.out; have hnc52 := NB634_638.out; have hcz53_0 : w48.cell? ⟨gb638, 0, none⟩ = some (.int .i64 0) := (blk_cell BK638.out 0).trans rfl; have hcz53_1 : w48.cell? ⟨gb638, 1, none⟩ = some (.int .i64 0) := (blk_cell BK638.out 1).trans rfl; have hcz53_2 : w48.cell? ⟨gb638, 2, none⟩ = some (.int .i64 0) := (blk_cell BK638.out 2).trans rfl; have hfz53_0 := blk_frozen BK638.out 0; have hfz53_1 := blk_frozen BK638.out 1; have hfz53_2 := blk_frozen BK638.out 2))
      (try simp only [Act.put, List.setIfInBounds_toArray, List.set_cons_zero, List.set_cons_succ])
      go_cut [69] (fun v69 wc => ∃ (kq : Nat) (x69_38 : Bool), v69 = .bool x69_38 ∧ Aside0 (laws_FnDecides.j1 kq t621 t622 x69_38 t625 t626 t627 t635 t636 t637 = some r) ∧ Aside0 (kq ≤ kj6) ∧ Aside0 (Kd.R (Kd.int .i64) 3 wc w.heap.size (fun _ => True) (.slice Ao11 t615.length co11) t615) ∧ Aside0 (wc.heap[gb623]? = some (.cells #[(.slice Ao11 t615.length co11)] 53 (0, 0))) ∧ Aside0 (wc.heap[gb624]? = some (.cells #[.int .i64 t618, .int .i64 t619, .int .i64 t620] 39 (0, 0))) ∧ Aside0 (wc.heap[gb629]? = some (.cells #[.int .i64 t625, .int .i64 t626, .int .i64 t627] 39 (0, 0))) ∧ Aside0 (wc.heap[gb634]? = some (.cells #[.int .i64 t630, .int .i64 t631, .int .i64 t632] 39 (0, 0))) ∧ Aside0 (wc.heap[gb638]? = some (.cells #[.int .i64 t635, .int .i64 t636, .int .i64 t637] 39 (0, 0))) ∧ Aside0 (Below w.heap.size w wc))
      case first =>
       have H := HC39.out
       clear HC39
       replace H := Option.bind_eq_some_iff.mp H
       obtain ⟨t639, A540, H⟩ := H
       replace H : (if t639 = true then (if ((t627 == 1) != (t622 == 1)) = true then (laws_FnDecides.j1 kj6 t621 t622 true t625 t626 t627 t635 t636 t637) else (laws_FnDecides.j1 kj6 t621 t622 (t637 != 0) t625 t626 t627 t635 t636 t637)) else (laws_FnDecides.j1 kj6 t621 t622 true t625 t626 t627 t635 t636 t637)) = some r := H
       have A54 := Aside0.mk A540
       clear A540
       by_cases c55 : t639 = true
       ·subst c55
        have H1 : (if ((t627 == 1) != (t622 == 1)) = true then (laws_FnDecides.j1 kj6 t621 t622 true t625 t626 t627 t635 t636 t637) else (laws_FnDecides.j1 kj6 t621 t622 (t637 != 0) t625 t626 t627 t635 t636 t637)) = some r := by rw [if_pos rfl] at H; exact H
        clear H
        have H := H1
        clear H1
        by_cases c56 : ((t627 == 1) != (t622 == 1)) = true
        ·rw [if_pos c56] at H
         have c56b0 : ((t627 == 1) != (t622 == 1)) = true := c56
         (try (have c56b1 : decide ((t627 == 1) = (t622 == 1)) = false := by simpa using c56))
         (try (have c56b2 : ((t627 == 1) == (t622 == 1)) = false := by simpa using c56))
         (try (have c56b3 : ¬ ((t627 == 1) = (t622 == 1)) := by simpa using c56))
         clear c56
         (first | rw [c56b0] | (simp only [i64_w, i32_w]; rw [c56b0]) | skip)
         exact absurd (H.trans (congrArg some hrt.out)) (by cases kj6 <;> simp [laws_FnDecides.j1])
        ·rw [if_neg c56] at H
         have c56b0 : ((t627 == 1) != (t622 == 1)) = false := by simpa using c56
         (try (have c56b1 : decide ((t627 == 1) = (t622 == 1)) = true := by simpa using c56))
         (try (have c56b2 : ((t627 == 1) == (t622 == 1)) = true := by simpa using c56))
         clear c56
         (first | rw [c56b0] | (simp only [i64_w, i32_w]; rw [c56b0]) | skip)
         have H' := Aside0.mk H
         clear H
         have hnb57 := NB629_623.out
         have hnc57 := NB623_629.out
         have hnb58 := NB629_624.out
         have hnc58 := NB624_629.out
         have hnb59 := NB629_634.out
         have hnc59 := NB634_629.out
         have hnb60 := NB629_638.out
         have hnc60 := NB638_629.out
         have hcz61_0 : w48.cell? ⟨gb629, 0, none⟩ = some (.int .i64 t625) := (blk_cell BK629.out 0).trans rfl
         have hcz61_1 : w48.cell? ⟨gb629, 1, none⟩ = some (.int .i64 t626) := (blk_cell BK629.out 1).trans rfl
         have hcz61_2 : w48.cell? ⟨gb629, 2, none⟩ = some (.int .i64 t627) := (blk_cell BK629.out 2).trans rfl
         have hfz61_0 := blk_frozen BK629.out 0
         have hfz61_1 := blk_frozen BK629.out 1
         have hfz61_2 := blk_frozen BK629.out 2
         go_wp2_with (first | ((with_reducible refine gate_callee (f := 24) rfl ?_); refine goesL_ (some 55) rfl rfl Try.func24 (by kernel_rfl) rfl #[.agg #[.int .i64 t625, .int .i64 t626, .int .i64 t627]] rfl (by (try simp only [List.map_toArray, List.map_cons, List.map_nil]); first | done | rfl | (simp only [List.length_drop, List.length_take]; rfl)) ?_; (with_reducible refine (impl_ScreenOk.calls t625 t626 t627 true _ A54.out).mono ?_); rintro e w62 ⟨rfl, hb⟩; refine ⟨_, rfl, ?_⟩; have n0_ := Aside0.mk (Kd.R_below (by (with_reducible repeat (first | apply Kd.R_alloc | apply Kd.R_drewN | apply Kd.R_drew)); exact (Kd.R_mono (Kd.R_far (p := ⟨gb638, 2, none⟩) (Kd.R_far (p := ⟨gb638, 1, none⟩) (Kd.R_far (p := ⟨gb638, 0, none⟩) (Kd.R_types HO_624000.out BK638.out (by decide)) (fun _ hk => hk.2) (.int .i64 t635)) (fun _ hk => hk.2) (.int .i64 t636)) (fun _ hk => hk.2) (.int .i64 t637)) (fun _ h_ => h_.1))) hb); have n1_ := Aside0.mk (blk_below (g := gb623) (o := .cells #[.slice Ao11 t615.length co11] 53 (0, 0)) (by (with_reducible repeat (first | refine blk_drewN ?_ _ | refine blk_drew ?_ | refine blk_alloc ?_ _)); refine blk_far ?_ NB623_638.out _; (with_reducible repeat (first | refine blk_drewN ?_ _ | refine blk_drew ?_ | refine blk_alloc ?_ _)); refine blk_far ?_ NB623_638.out _; (with_reducible repeat (first | refine blk_drewN ?_ _ | refine blk_drew ?_ | refine blk_alloc ?_ _)); refine blk_far ?_ NB623_638.out _; (with_reducible repeat (first | refine blk_drewN ?_ _ | refine blk_drew ?_ | refine blk_alloc ?_ _)); exact BK623.out) hb); have n2_ := Aside0.mk (blk_below (g := gb624) (o := .cells #[.int .i64 t618, .int .i64 t619, .int .i64 t620] 39 (0, 0)) (by (with_reducible repeat (first | refine blk_drewN ?_ _ | refine blk_drew ?_ | refine blk_alloc ?_ _)); refine blk_far ?_ NB624_638.out _; (with_reducible repeat (first | refine blk_drewN ?_ _ | refine blk_drew ?_ | refine blk_alloc ?_ _)); refine blk_far ?_ NB624_638.out _; (with_reducible repeat (first | refine blk_drewN ?_ _ | refine blk_drew ?_ | refine blk_alloc ?_ _)); refine blk_far ?_ NB624_638.out _; (with_reducible repeat (first | refine blk_drewN ?_ _ | refine blk_drew ?_ | refine blk_alloc ?_ _)); exact BK624.out) hb); have n3_ := Aside0.mk (blk_below (g := gb629) (o := .cells #[.int .i64 t625, .int .i64 t626, .int .i64 t627] 39 (0, 0)) (by (with_reducible repeat (first | refine blk_drewN ?_ _ | refine blk_drew ?_ | refine blk_alloc ?_ _)); refine blk_far ?_ NB629_638.out _; (with_reducible repeat (first | refine blk_drewN ?_ _ | refine blk_drew ?_ | refine blk_alloc ?_ _)); refine blk_far ?_ NB629_638.out _; (with_reducible repeat (first | refine blk_drewN ?_ _ | refine blk_drew ?_ | refine blk_alloc ?_ _)); refine blk_far ?_ NB629_638.out _; (with_reducible repeat (first | refine blk_drewN ?_ _ | refine blk_drew ?_ | refine blk_alloc ?_ _)); exact BK629.out) hb); have n4_ := Aside0.mk (blk_below (g := gb634) (o := .cells #[.int .i64 t630, .int .i64 t631, .int .i64 t632] 39 (0, 0)) (by (with_reducible repeat (first | refine blk_drewN ?_ _ | refine blk_drew ?_ | refine blk_alloc ?_ _)); refine blk_far ?_ NB634_638.out _; (with_reducible repeat (first | refine blk_drewN ?_ _ | refine blk_drew ?_ | refine blk_alloc ?_ _)); refine blk_far ?_ NB634_638.out _; (with_reducible repeat (first | refine blk_drewN ?_ _ | refine blk_drew ?_ | refine blk_alloc ?_ _)); refine blk_far ?_ NB634_638.out _; (with_reducible repeat (first | refine blk_drewN ?_ _ | refine blk_drew ?_ | refine blk_alloc ?_ _)); exact BK634.out) hb); have n5_ := Aside0.mk (blk_below (g := gb638) (o := .cells #[.int .i64 t635, .int .i64 t636, .int .i64 t637] 39 (0, 0)) (by (with_reducible repeat (first | refine blk_drewN ?_ _ | refine blk_drew ?_ | refine blk_alloc ?_ _)); refine blk_put (cs := #[.int .i64 t635, .int .i64 t636, .int .i64 0]) ?_ 2 _ rfl; (with_reducible repeat (first | refine blk_drewN ?_ _ | refine blk_drew ?_ | refine blk_alloc ?_ _)); refine blk_put (cs := #[.int .i64 t635, .int .i64 0, .int .i64 0]) ?_ 1 _ rfl; (with_reducible repeat (first | refine blk_drewN ?_ _ | refine blk_drew ?_ | refine blk_alloc ?_ _)); refine blk_put (cs := #[.int .i64 0, .int .i64 0, .int .i64 0]) ?_ 0 _ rfl; (with_reducible repeat (first | refine blk_drewN ?_ _ | refine blk_drew ?_ | refine blk_alloc ?_ _)); exact BK638.out) hb); have n6_ := Aside0.mk (below_step (by repeat (first | (with_reducible first | exact HB.out | apply below_alloc | apply pw_below_drewN | apply below_drew1 | refine below_set ?_ GE623.out | refine below_set ?_ GE624.out | refine below_set ?_ GE629.out | refine below_set ?_ GE634.out | refine below_set ?_ GE638.out) | exact HB.out)) hb); clear HO_624000; clear BK623; clear BK624; clear BK629; clear BK634; clear BK638; clear HB; have HO_624000 := n0_; have BK623 := n1_; have BK624 := n2_; have BK629 := n3_; have BK634 := n4_; have BK638 := n5_; have HB := n6_; clear n0_ n1_ n2_ n3_ n4_ n5_ n6_; (try clear hb); (try clear hb2); (try clear hk); (try clear hi); have hcz63_0 : w62.cell? ⟨gb629, 0, none⟩ = some (.int .i64 t625) := (blk_cell BK629.out 0).trans rfl; have hcz63_1 : w62.cell? ⟨gb629, 1, none⟩ = some (.int .i64 t626) := (blk_cell BK629.out 1).trans rfl; have hcz63_2 : w62.cell? ⟨gb629, 2, none⟩ = some (.int .i64 t627) := (blk_cell BK629.out 2).trans rfl; have hfz63_0 := blk_frozen BK629.out 0; have hfz63_1 := blk_frozen BK629.out 1; have hfz63_2 := blk_frozen BK629.out 2; have hnb64 := NB638_623.out; have hnc64 := NB623_638.out; have hnb65 := NB638_624.out; have hnc65 := NB624_638.out; have hnb66 := NB638_634.out; have hnc66 := NB634_638.out; have hcz67_0 : w62.cell? ⟨gb638, 0, none⟩ = some (.int .i64 t635) := (blk_cell BK638.out 0).trans rfl; have hcz67_1 : w62.cell? ⟨gb638, 1, none⟩ = some (.int .i64 t636) := (blk_cell BK638.out 1).trans rfl; have hcz67_2 : w62.cell? ⟨gb638, 2, none⟩ = some (.int .i64 t637) := (blk_cell BK638.out 2).trans rfl; have hfz67_0 := blk_frozen BK638.out 0; have hfz67_1 := blk_frozen BK638.out 1; have hfz67_2 := blk_frozen BK638.out 2))
         go_meet
         case rel => exact ⟨_, ((t637 != 0)), (by first | rfl | (simp; done) | (simp [*]; done)), H', ⟨by have := HJ6.out; first | omega | exact Nat.le_refl _⟩, ⟨by (with_reducible repeat (first | apply Kd.R_alloc | apply Kd.R_drewN | apply Kd.R_drew)); exact HO_624000.out⟩, ⟨by (with_reducible repeat (first | refine blk_drewN ?_ _ | refine blk_drew ?_ | refine blk_alloc ?_ _)); exact BK623.out⟩, ⟨by (with_reducible repeat (first | refine blk_drewN ?_ _ | refine blk_drew ?_ | refine blk_alloc ?_ _)); exact BK624.out⟩, ⟨by (with_reducible repeat (first | refine blk_drewN ?_ _ | refine blk_drew ?_ | refine blk_alloc ?_ _)); exact BK629.out⟩, ⟨by (with_reducible repeat (first | refine blk_drewN ?_ _ | refine blk_drew ?_ | refine blk_alloc ?_ _)); exact BK634.out⟩, ⟨by (with_reducible repeat (first | refine blk_drewN ?_ _ | refine blk_drew ?_ | refine blk_alloc ?_ _)); exact BK638.out⟩, ⟨by repeat (first | (with_reducible first | exact HB.out | apply below_alloc | apply pw_below_drewN | apply below_drew1 | refine below_set ?_ GE623.out | refine below_set ?_ GE624.out | refine below_set ?_ GE629.out | refine below_set ?_ GE634.out | refine below_set ?_ GE638.out) | exact HB.out)⟩⟩
       ·replace c55 := Bool.eq_false_iff.mpr c55
        subst c55
        have H1 : (laws_FnDecides.j1 kj6 t621 t622 true t625 t626 t627 t635 t636 t637) = some r := by rw [if_neg (show ¬ (false = true) by decide)] at H; exact H
        clear H
        have H := H1
        clear H1
        exact absurd (H.trans (congrArg some hrt.out)) (by cases kj6 <;> simp [laws_FnDecides.j1])
      case rest =>
       clear HC39
       try clear c1
       try clear c2
       try clear p2
       try clear c3
       try clear c4
       try clear c5
       try clear c6
       try clear c12
       try clear c17
       try clear c18
       try clear c24
       try clear c25
       try clear c26
       try clear c28
       try clear c28b0
       try clear c28b1
       try clear c28b2
       try clear c29
       try clear c30
       try clear c31
       try clear c33
       try clear c34
       try clear c36
       try clear c37
       try clear c40
       try clear c41
       try clear c42
       try clear c44
       try clear c45
       try clear c49
       try clear c50
       try clear c51
       try clear c52
       try clear c55
       try clear c56
       try clear c56b0
       try clear c56b1
       try clear c56b2
       try clear c57
       try clear c58
       try clear c59
       try clear c60
       try clear c64
       try clear c65
       try clear c66
       try clear hcz13_0
       try clear hcz14_0
       try clear hcz14_1
       try clear hcz14_2
       try clear hcz19_0
       try clear hcz19_1
       try clear hcz19_2
       try clear hcz20_0
       try clear hcz21_0
       try clear hcz21_1
       try clear hcz21_2
       try clear hcz27_0
       try clear hcz27_1
       try clear hcz27_2
       try clear hcz32_0
       try clear hcz32_1
       try clear hcz32_2
       try clear hcz35_0
       try clear hcz35_1
       try clear hcz35_2
       try clear hcz43_0
       try clear hcz46_0
       try clear hcz46_1
       try clear hcz46_2
       try clear hcz53_0
       try clear hcz53_1
       try clear hcz53_2
       try clear hcz61_0
       try clear hcz61_1
       try clear hcz61_2
       try clear hcz63_0
       try clear hcz63_1
       try clear hcz63_2
       try clear hcz67_0
       try clear hcz67_1
       try clear hcz67_2
       try clear hfz13_0
       try clear hfz14_0
       try clear hfz14_1
       try clear hfz14_2
       try clear hfz19_0
       try clear hfz19_1
       try clear hfz19_2
       try clear hfz20_0
       try clear hfz21_0
       try clear hfz21_1
       try clear hfz21_2
       try clear hfz27_0
       try clear hfz27_1
       try clear hfz27_2
       try clear hfz32_0
       try clear hfz32_1
       try clear hfz32_2
       try clear hfz35_0
       try clear hfz35_1
       try clear hfz35_2
       try clear hfz43_0
       try clear hfz46_0
       try clear hfz46_1
       try clear hfz46_2
       try clear hfz53_0
       try clear hfz53_1
       try clear hfz53_2
       try clear hfz61_0
       try clear hfz61_1
       try clear hfz61_2
       try clear hfz63_0
       try clear hfz63_1
       try clear hfz63_2
       try clear hfz67_0
       try clear hfz67_1
       try clear hfz67_2
       try clear p2
       obtain ⟨kq, x69_38, rfl, HA, HJ38, HO_624000, BK623, BK624, BK629, BK634, BK638, HB⟩ := hcut
       cases kq with
       | zero => exact absurd HA.out (by simp [laws_FnDecides.j1])
       | succ kj38 =>
        have H := HA.out
        clear HA
        simp only [laws_FnDecides.j1] at H
        by_cases c68 : x69_38 = true
        ·subst c68
         have H1 : (some false) = some r := by rw [if_pos rfl] at H; exact H
         clear H
         have H := H1
         clear H1
         exact absurd (H.trans (congrArg some hrt.out)) (by simp)
        ·replace c68 := Bool.eq_false_iff.mpr c68
         subst c68
         have H1 : (if t622 = 1 then (if t625 = t635 then (some (t626 == t636)) else (some false)) else (if t635 = 4 then (if t627 = 2 then (some (t625 == t635)) else (some false)) else (if t625 = (wrap64 (t635 + 1)) then (if t626 = t621 then (some (t627 == 0)) else (some false)) else (some false)))) = some r := by rw [if_neg (show ¬ (false = true) by decide)] at H; exact H
         clear H
         have H := H1
         clear H1
         by_cases c69 : t622 = 1
         ·rw [if_pos c69] at H
          have c69b0 : (t622 == 1) = true := beq_iff_eq.mpr c69
          have c69b1 : (t622 != 1) = false := bne_eq_false_iff_eq.mpr c69
          clear c69
          by_cases c70 : t625 = t635
          ·rw [if_pos c70] at H
           have c70b0 : (t625 == t635) = true := beq_iff_eq.mpr c70
           have c70b1 : (t625 != t635) = false := bne_eq_false_iff_eq.mpr c70
           clear c70
           obtain rfl := Option.some.inj H
           have hnb71 := NB629_623.out
           have hnc71 := NB623_629.out
           have hnb72 := NB629_624.out
           have hnc72 := NB624_629.out
           have hnb73 := NB629_634.out
           have hnc73 := NB634_629.out
           have hnb74 := NB629_638.out
           have hnc74 := NB638_629.out
           have hcz75_0 : wc.cell? ⟨gb629, 0, none⟩ = some (.int .i64 t625) := (blk_cell BK629.out 0).trans rfl
           have hcz75_1 : wc.cell? ⟨gb629, 1, none⟩ = some (.int .i64 t626) := (blk_cell BK629.out 1).trans rfl
           have hcz75_2 : wc.cell? ⟨gb629, 2, none⟩ = some (.int .i64 t627) := (blk_cell BK629.out 2).trans rfl
           have hfz75_0 := blk_frozen BK629.out 0
           have hfz75_1 := blk_frozen BK629.out 1
           have hfz75_2 := blk_frozen BK629.out 2
           have hnb76 := NB638_623.out
           have hnc76 := NB623_638.out
           have hnb77 := NB638_624.out
           have hnc77 := NB624_638.out
           have hnb78 := NB638_634.out
           have hnc78 := NB634_638.out
           have hcz79_0 : wc.cell? ⟨gb638, 0, none⟩ = some (.int .i64 t635) := (blk_cell BK638.out 0).trans rfl
           have hcz79_1 : wc.cell? ⟨gb638, 1, none⟩ = some (.int .i64 t636) := (blk_cell BK638.out 1).trans rfl
           have hcz79_2 : wc.cell? ⟨gb638, 2, none⟩ = some (.int .i64 t637) := (blk_cell BK638.out 2).trans rfl
           have hfz79_0 := blk_frozen BK638.out 0
           have hfz79_1 := blk_frozen BK638.out 1
           have hfz79_2 := blk_frozen BK638.out 2
           go_wp2
           go_ret
           exact ⟨by first | rfl | (simp [errW_none, errW_some] <;> rfl) | (simp [*, errW_none, errW_some] <;> rfl), by repeat (first | (with_reducible first | exact HB.out | apply below_alloc | apply pw_below_drewN | apply below_drew1 | refine below_set ?_ GE623.out | refine below_set ?_ GE624.out | refine below_set ?_ GE629.out | refine below_set ?_ GE634.out | refine below_set ?_ GE638.out) | exact HB.out)⟩
          ·rw [if_neg c70] at H
           have c70b0 : (t625 == t635) = false := beq_eq_false_iff_ne.mpr c70
           have c70b1 : (t625 != t635) = true := bne_iff_ne.mpr c70
           exact absurd (H.trans (congrArg some hrt.out)) (by simp)
         ·rw [if_neg c69] at H
          have c69b0 : (t622 == 1) = false := beq_eq_false_iff_ne.mpr c69
          have c69b1 : (t622 != 1) = true := bne_iff_ne.mpr c69
          by_cases c80 : t635 = 4
          ·rw [if_pos c80] at H
           have c80b0 : (t635 == 4) = true := beq_iff_eq.mpr c80
           have c80b1 : (t635 != 4) = false := bne_eq_false_iff_eq.mpr c80
           clear c80
           by_cases c81 : t627 = 2
           ·rw [if_pos c81] at H
            have c81b0 : (t627 == 2) = true := beq_iff_eq.mpr c81
            have c81b1 : (t627 != 2) = false := bne_eq_false_iff_eq.mpr c81
            clear c81
            obtain rfl := Option.some.inj H
            have hnb82 := NB638_623.out
            have hnc82 := NB623_638.out
            have hnb83 := NB638_624.out
            have hnc83 := NB624_638.out
            have hnb84 := NB638_629.out
            have hnc84 := NB629_638.out
            have hnb85 := NB638_634.out
            have hnc85 := NB634_638.out
            have hcz86_0 : wc.cell? ⟨gb638, 0, none⟩ = some (.int .i64 t635) := (blk_cell BK638.out 0).trans rfl
            have hcz86_1 : wc.cell? ⟨gb638, 1, none⟩ = some (.int .i64 t636) := (blk_cell BK638.out 1).trans rfl
            have hcz86_2 : wc.cell? ⟨gb638, 2, none⟩ = some (.int .i64 t637) := (blk_cell BK638.out 2).trans rfl
            have hfz86_0 := blk_frozen BK638.out 0
            have hfz86_1 := blk_frozen BK638.out 1
            have hfz86_2 := blk_frozen BK638.out 2
            have hnb87 := NB629_623.out
            have hnc87 := NB623_629.out
            have hnb88 := NB629_624.out
            have hnc88 := NB624_629.out
            have hnb89 := NB629_634.out
            have hnc89 := NB634_629.out
            have hcz90_0 : wc.cell? ⟨gb629, 0, none⟩ = some (.int .i64 t625) := (blk_cell BK629.out 0).trans rfl
            have hcz90_1 : wc.cell? ⟨gb629, 1, none⟩ = some (.int .i64 t626) := (blk_cell BK629.out 1).trans rfl
            have hcz90_2 : wc.cell? ⟨gb629, 2, none⟩ = some (.int .i64 t627) := (blk_cell BK629.out 2).trans rfl
            have hfz90_0 := blk_frozen BK629.out 0
            have hfz90_1 := blk_frozen BK629.out 1
            have hfz90_2 := blk_frozen BK629.out 2
            go_wp2
            go_ret
            exact ⟨by first | rfl | (simp [errW_none, errW_some] <;> rfl) | (simp [*, errW_none, errW_some] <;> rfl), by repeat (first | (with_reducible first | exact HB.out | apply below_alloc | apply pw_below_drewN | apply below_drew1 | refine below_set ?_ GE623.out | refine below_set ?_ GE624.out | refine below_set ?_ GE629.out | refine below_set ?_ GE634.out | refine below_set ?_ GE638.out) | exact HB.out)⟩
           ·rw [if_neg c81] at H
            have c81b0 : (t627 == 2) = false := beq_eq_false_iff_ne.mpr c81
            have c81b1 : (t627 != 2) = true := bne_iff_ne.mpr c81
            exact absurd (H.trans (congrArg some hrt.out)) (by simp)
          ·rw [if_neg c80] at H
           have c80b0 : (t635 == 4) = false := beq_eq_false_iff_ne.mpr c80
           have c80b1 : (t635 != 4) = true := bne_iff_ne.mpr c80
           by_cases c91 : t625 = (wrap64 (t635 + 1))
           ·rw [if_pos c91] at H
            have c91b0 : (t625 == (wrap64 (t635 + 1))) = true := beq_iff_eq.mpr c91
            have c91b1 : (t625 != (wrap64 (t635 + 1))) = false := bne_eq_false_iff_eq.mpr c91
            clear c91
            by_cases c92 : t626 = t621
            ·rw [if_pos c92] at H
             have c92b0 : (t626 == t621) = true := beq_iff_eq.mpr c92
             have c92b1 : (t626 != t621) = false := bne_eq_false_iff_eq.mpr c92
             clear c92
             obtain rfl := Option.some.inj H
             have hnb93 := NB638_623.out
             have hnc93 := NB623_638.out
             have hnb94 := NB638_624.out
             have hnc94 := NB624_638.out
             have hnb95 := NB638_629.out
             have hnc95 := NB629_638.out
             have hnb96 := NB638_634.out
             have hnc96 := NB634_638.out
             have hcz97_0 : wc.cell? ⟨gb638, 0, none⟩ = some (.int .i64 t635) := (blk_cell BK638.out 0).trans rfl
             have hcz97_1 : wc.cell? ⟨gb638, 1, none⟩ = some (.int .i64 t636) := (blk_cell BK638.out 1).trans rfl
             have hcz97_2 : wc.cell? ⟨gb638, 2, none⟩ = some (.int .i64 t637) := (blk_cell BK638.out 2).trans rfl
             have hfz97_0 := blk_frozen BK638.out 0
             have hfz97_1 := blk_frozen BK638.out 1
             have hfz97_2 := blk_frozen BK638.out 2
             have hnb98 := NB629_623.out
             have hnc98 := NB623_629.out
             have hnb99 := NB629_624.out
             have hnc99 := NB624_629.out
             have hnb100 := NB629_634.out
             have hnc100 := NB634_629.out
             have hcz101_0 : wc.cell? ⟨gb629, 0, none⟩ = some (.int .i64 t625) := (blk_cell BK629.out 0).trans rfl
             have hcz101_1 : wc.cell? ⟨gb629, 1, none⟩ = some (.int .i64 t626) := (blk_cell BK629.out 1).trans rfl
             have hcz101_2 : wc.cell? ⟨gb629, 2, none⟩ = some (.int .i64 t627) := (blk_cell BK629.out 2).trans rfl
             have hfz101_0 := blk_frozen BK629.out 0
             have hfz101_1 := blk_frozen BK629.out 1
             have hfz101_2 := blk_frozen BK629.out 2
             go_wp2
             go_ret
             exact ⟨by first | rfl | (simp [errW_none, errW_some] <;> rfl) | (simp [*, errW_none, errW_some] <;> rfl), by repeat (first | (with_reducible first | exact HB.out | apply below_alloc | apply pw_below_drewN | apply below_drew1 | refine below_set ?_ GE623.out | refine below_set ?_ GE624.out | refine below_set ?_ GE629.out | refine below_set ?_ GE634.out | refine below_set ?_ GE638.out) | exact HB.out)⟩
            ·rw [if_neg c92] at H
             have c92b0 : (t626 == t621) = false := beq_eq_false_iff_ne.mpr c92
             have c92b1 : (t626 != t621) = true := bne_iff_ne.mpr c92
             exact absurd (H.trans (congrArg some hrt.out)) (by simp)
           ·rw [if_neg c91] at H
            have c91b0 : (t625 == (wrap64 (t635 + 1))) = false := beq_eq_false_iff_ne.mpr c91
            have c91b1 : (t625 != (wrap64 (t635 + 1))) = true := bne_iff_ne.mpr c91
            exact absurd (H.trans (congrArg some hrt.out)) (by simp)
     ·replace c37 := Bool.eq_false_iff.mpr c37
      subst c37
      have H1 : (some (t625 == t618 && (t626 == t619 && (t627 == t620)))) = some r := by rw [if_neg (show ¬ (false = true) by decide)] at H; exact H
      clear H
      have H := H1
      clear H1
      obtain rfl := Option.some.inj H
      have hnb102 := NB629_623.out
      have hnc102 := NB623_629.out
      have hnb103 := NB629_624.out
      have hnc103 := NB624_629.out
      have hnb104 := NB629_634.out
      have hnc104 := NB634_629.out
      have hcz105_0 : wc.cell? ⟨gb629, 0, none⟩ = some (.int .i64 t625) := (blk_cell BK629.out 0).trans rfl
      have hcz105_1 : wc.cell? ⟨gb629, 1, none⟩ = some (.int .i64 t626) := (blk_cell BK629.out 1).trans rfl
      have hcz105_2 : wc.cell? ⟨gb629, 2, none⟩ = some (.int .i64 t627) := (blk_cell BK629.out 2).trans rfl
      have hfz105_0 := blk_frozen BK629.out 0
      have hfz105_1 := blk_frozen BK629.out 1
      have hfz105_2 := blk_frozen BK629.out 2
      have hnb106 := NB624_623.out
      have hnc106 := NB623_624.out
      have hnb107 := NB624_634.out
      have hnc107 := NB634_624.out
      have hcz108_0 : wc.cell? ⟨gb624, 0, none⟩ = some (.int .i64 t618) := (blk_cell BK624.out 0).trans rfl
      have hcz108_1 : wc.cell? ⟨gb624, 1, none⟩ = some (.int .i64 t619) := (blk_cell BK624.out 1).trans rfl
      have hcz108_2 : wc.cell? ⟨gb624, 2, none⟩ = some (.int .i64 t620) := (blk_cell BK624.out 2).trans rfl
      have hfz108_0 := blk_frozen BK624.out 0
      have hfz108_1 := blk_frozen BK624.out 1
      have hfz108_2 := blk_frozen BK624.out 2
      go_wp2
      go_ret
      exact ⟨by first | rfl | (simp [errW_none, errW_some] <;> rfl) | (simp [*, errW_none, errW_some] <;> rfl), by repeat (first | (with_reducible first | exact HB.out | apply below_alloc | apply pw_below_drewN | apply below_drew1 | refine below_set ?_ GE623.out | refine below_set ?_ GE624.out | refine below_set ?_ GE629.out | refine below_set ?_ GE634.out) | exact HB.out)⟩

end Go.Proofs.Ytmonbofhfaaflaa.Px
