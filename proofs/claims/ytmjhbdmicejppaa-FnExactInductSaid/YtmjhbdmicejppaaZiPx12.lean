import Derived.Test.YtmjhbdmicejppaaZiPx0
import Derived.Test.YtmjhbdmicejppaaZiPx1
import Derived.Test.YtmjhbdmicejppaaZiPx2
import Derived.Test.YtmjhbdmicejppaaZiPx3
namespace Go.Proofs.Ytmjhbdmicejppaa.Px
open Go.RowKit Go.Proofs.YtmjhbdmicejppaaW.PrintWords Go.Proofs.YtmjhbdmicejppaaW.PrintLast Go.Proofs.YtmjhbdmicejppaaW.PrintMore
attribute [local go_sem] max2_int min2_int max_two min_two max_three min_three max_four min_four   
set_option linter.unusedVariables false
set_option linter.unusedSimpArgs false
def spec_TrayAt.f (k : Nat) (l0_0 : List Int) (a0_1 : Int) (l0_2 : List (S69)) (l0_3 : List (S74)) (a1 : Int) : Option (Int) := (spec_LoopOk.f k l0_0 a0_1 l0_2 l0_3).bind fun t723 => (if t723 = true then ((spec_l01In.f a1 0 (wrap64 ((l0_0.length : Int) - 1))).bind fun t724 => (if t724 = true then ((spec_l05Tray.f l0_0 a0_1 l0_2 l0_3 a1).bind fun t725 => (some t725)) else (some (-1)))) else (some (-1)))
set_option maxHeartbeats 8000000 in
set_option maxRecDepth 100000 in
theorem spec_TrayAt.calls (k : Nat) (ag : Option Addr) (ah : Nat) (ac : List Int) (a0_1 : Int) (ai : Option Addr) (aj : Nat) (ad : List (S69)) (ak : Option Addr) (al : Nat) (ae : List (S74)) (a1 : Int) (r : Int) (w : World) (az : Kd.C (Kd.int .i64) w ag ac.length ac) (hc0_0 : ac.length ≤ ah) (aA : Kd.C k69 w ai ad.length ad) (hc0_2 : ad.length ≤ aj) (aB : Kd.C k74 w ak ae.length ae) (hc0_3 : ae.length ≤ al) (h : spec_TrayAt.f k ac a0_1 ad ae a1 = some r) :
  Calls Try.prog 34 #[.agg #[.slice ag ac.length ah, .int .i64 a0_1, .slice ai ad.length aj, .slice ak ae.length al], .int .i64 a1] w fun e w' => e = .returned (.int .i64 r) ∧ Below w.heap.size w w' := by
 have hu28 := Try.underlying28; have aq := zK az; have ar := zK hc0_0; clear az hc0_0; have au := zK aA; have av := zK hc0_2; clear aA hc0_2; have aw := zK aB; have ax := zK hc0_3; clear aB hc0_3
 have HB := zK (Below.refl w.heap.size w)
 have H : ((spec_LoopOk.f k ac a0_1 ad ae).bind fun ay => (if ay = true then ((spec_l01In.f a1 0 (wrap64 ((ac.length : Int) - 1))).bind fun ap => (if ap = true then ((spec_l05Tray.f ac a0_1 ad ae a1).bind fun am => (some am)) else (some (-1)))) else (some (-1)))) = some r := h
 clear h; replace H := Option.bind_eq_some_iff.mp H
 obtain ⟨ay, A30, H⟩ := H
 replace H : (if ay = true then ((spec_l01In.f a1 0 (wrap64 ((ac.length : Int) - 1))).bind fun ap => (if ap = true then ((spec_l05Tray.f ac a0_1 ad ae a1).bind fun am => (some am)) else (some (-1)))) else (some (-1))) = some r := H
 have A3 := zK A30; clear A30
 by_cases c4 : ay = true
 ·subst c4
  have H1 : ((spec_l01In.f a1 0 (wrap64 ((ac.length : Int) - 1))).bind fun ap => (if ap = true then ((spec_l05Tray.f ac a0_1 ad ae a1).bind fun am => (some am)) else (some (-1)))) = some r := by rw [if_pos rfl] at H; exact H
  clear H; have H := H1; clear H1; replace H := Option.bind_eq_some_iff.mp H
  obtain ⟨ap, A50, H⟩ := H
  replace H : (if ap = true then ((spec_l05Tray.f ac a0_1 ad ae a1).bind fun am => (some am)) else (some (-1))) = some r := H
  have A5 := zK A50; clear A50
  by_cases c6 : ap = true
  ·subst c6
   have H1 : ((spec_l05Tray.f ac a0_1 ad ae a1).bind fun am => (some am)) = some r := by rw [if_pos rfl] at H; exact H
   clear H; have H := H1; clear H1; replace H := Option.bind_eq_some_iff.mp H
   obtain ⟨am, A70, H⟩ := H
   replace H : (some am) = some r := H
   have A7 := zK A70; clear A70; obtain rfl := Option.some.inj H
   go_enter Try.func34, Try.ntmps34
   go_wp2_with (first | ((with_reducible refine gate_dst (N := 2) rfl ?_); (try (refine gate_guard (by rfl) ?_; dsimp only)); refine box_event ?hg (N := 2) ?hd (cs := #[.slice ag ac.length ah, .int .i64 a0_1, .slice ai ad.length aj, .slice ak ae.length al]) (t := 28) ?hr ?_; (case hd => rfl); (case hg => rfl); (case hr => first | (go_simp; done) | (go_simp; rfl)); intro ab hg w8 hbox hb; have an := zK (below_step (zb HB) hb); have ao := zK (hbox); have aC := zK ((by rw [hg]; exact (below_size (zb HB)) : w.heap.size ≤ ab)); have aD := zK ((by rw [hg]; exact (below_size (zb HB)) : w.heap.size ≤ ab)); clear HB; have HB := an; have aa := ao; have aE := aC; have af := aD; clear an ao aC aD; clear hb hbox hg; have hcz9_0 : w8.cell? ⟨ab, 0, none⟩ = some (.slice ag ac.length ah) := (blk_cell aa.out 0).trans rfl; have hcz9_1 : w8.cell? ⟨ab, 1, none⟩ = some (.int .i64 a0_1) := (blk_cell aa.out 1).trans rfl; have hcz9_2 : w8.cell? ⟨ab, 2, none⟩ = some (.slice ai ad.length aj) := (blk_cell aa.out 2).trans rfl; have hcz9_3 : w8.cell? ⟨ab, 3, none⟩ = some (.slice ak ae.length al) := (blk_cell aa.out 3).trans rfl; have hfz9_0 := blk_frozen aa.out 0; have hfz9_1 := blk_frozen aa.out 1; have hfz9_2 := blk_frozen aa.out 2; have hfz9_3 := blk_frozen aa.out 3) | ((with_reducible refine gate_callee (f := 23) rfl ?_); refine goesL_ (some 6) rfl rfl Try.func23 (by kernel_rfl) rfl #[.agg #[.slice ag ac.length ah, .int .i64 a0_1, .slice ai ad.length aj, .slice ak ae.length al]] rfl (by (try simp only [List.map_toArray, List.map_cons, List.map_nil]); first | done | rfl | (simp only [List.length_drop, List.length_take]; rfl)) ?_; (with_reducible refine (spec_LoopOk.calls k _ _ ac a0_1 _ _ ad _ _ ae true _ ?side1 ?side2 ?side3 ?side4 ?side5 ?side6 A3.out).mono ?_); (case side1 => repeat (first | exact (Kd.C_below aq.out HB.out) | (with_reducible refine Kd.C_alloc ?_ _) | (with_reducible refine Kd.C_drewN ?_ _) | (with_reducible refine Kd.C_drew ?_))); (case side2 => exact ar.out); (case side3 => repeat (first | exact (Kd.C_below au.out HB.out) | (with_reducible refine Kd.C_alloc ?_ _) | (with_reducible refine Kd.C_drewN ?_ _) | (with_reducible refine Kd.C_drew ?_))); (case side4 => exact av.out); (case side5 => repeat (first | exact (Kd.C_below aw.out HB.out) | (with_reducible refine Kd.C_alloc ?_ _) | (with_reducible refine Kd.C_drewN ?_ _) | (with_reducible refine Kd.C_drew ?_))); (case side6 => exact ax.out); rintro e w10 ⟨rfl, hb⟩; refine ⟨_, rfl, ?_⟩; have an := zK (blk_below (g := ab) (o := .cells #[.slice ag ac.length ah, .int .i64 a0_1, .slice ai ad.length aj, .slice ak ae.length al] 28 (0, 0)) (zk aa) hb); have ao := zK (below_step (zb HB) hb); clear aa; clear HB; have aa := an; have HB := ao; clear an ao; (try clear hb); have hcz11_0 : w10.cell? ⟨ab, 0, none⟩ = some (.slice ag ac.length ah) := (blk_cell aa.out 0).trans rfl; have hcz11_1 : w10.cell? ⟨ab, 1, none⟩ = some (.int .i64 a0_1) := (blk_cell aa.out 1).trans rfl; have hcz11_2 : w10.cell? ⟨ab, 2, none⟩ = some (.slice ai ad.length aj) := (blk_cell aa.out 2).trans rfl; have hcz11_3 : w10.cell? ⟨ab, 3, none⟩ = some (.slice ak ae.length al) := (blk_cell aa.out 3).trans rfl; have hfz11_0 := blk_frozen aa.out 0; have hfz11_1 := blk_frozen aa.out 1; have hfz11_2 := blk_frozen aa.out 2; have hfz11_3 := blk_frozen aa.out 3) | (go_at_call 62; (with_reducible refine (spec_l01In.calls a1 0 (wrap64 ((ac.length : Int) - 1)) true _ A5.out).mono ?_); rintro e w' ⟨rfl, ⟨nd, rfl⟩⟩) | ((with_reducible refine gate_callee (f := 77) rfl ?_); refine goesL_ (some 19) rfl rfl Try.func77 (by kernel_rfl) rfl #[.agg #[.slice ag ac.length ah, .int .i64 a0_1, .slice ai ad.length aj, .slice ak ae.length al], .int .i64 a1] rfl (by (try simp only [List.map_toArray, List.map_cons, List.map_nil]); first | done | rfl | (simp only [List.length_drop, List.length_take]; rfl)) ?_; (with_reducible refine (spec_l05Tray.calls _ _ ac a0_1 _ _ ad _ _ ae a1 am _ ?side1 ?side2 ?side3 ?side4 ?side5 ?side6 A7.out).mono ?_); (case side1 => repeat (first | exact (Kd.C_below aq.out (zb HB)) | (with_reducible refine Kd.C_alloc ?_ _) | (with_reducible refine Kd.C_drewN ?_ _) | (with_reducible refine Kd.C_drew ?_))); (case side2 => exact ar.out); (case side3 => repeat (first | exact (Kd.C_below au.out (zb HB)) | (with_reducible refine Kd.C_alloc ?_ _) | (with_reducible refine Kd.C_drewN ?_ _) | (with_reducible refine Kd.C_drew ?_))); (case side4 => exact av.out); (case side5 => repeat (first | exact (Kd.C_below aw.out (zb HB)) | (with_reducible refine Kd.C_alloc ?_ _) | (with_reducible refine Kd.C_drewN ?_ _) | (with_reducible refine Kd.C_drew ?_))); (case side6 => exact ax.out); rintro e w12 ⟨rfl, hb⟩; refine ⟨_, rfl, ?_⟩; have an := zK (blk_below (g := ab) (o := .cells #[.slice ag ac.length ah, .int .i64 a0_1, .slice ai ad.length aj, .slice ak ae.length al] 28 (0, 0)) (zk aa) hb); have ao := zK (below_step (zb HB) hb); clear aa; clear HB; have aa := an; have HB := ao; clear an ao; (try clear hb)))
   go_ret
   exact ⟨by first | rfl | (simp [errW_none, errW_some] <;> rfl) | (simp [*, errW_none, errW_some] <;> rfl), by repeat (first | (with_reducible first | exact HB.out | apply zB | apply zC | apply zE | refine zS ?_ af.out) | exact HB.out)⟩
  ·replace c6 := Bool.eq_false_iff.mpr c6
   subst c6
   have H1 : (some (-1)) = some r := by rw [if_neg (show ¬ (false = true) by decide)] at H; exact H
   clear H; have H := H1; clear H1; obtain rfl := Option.some.inj H
   go_enter Try.func34, Try.ntmps34
   go_wp2_with (first | ((with_reducible refine gate_dst (N := 2) rfl ?_); (try (refine gate_guard (by rfl) ?_; dsimp only)); refine box_event ?hg (N := 2) ?hd (cs := #[.slice ag ac.length ah, .int .i64 a0_1, .slice ai ad.length aj, .slice ak ae.length al]) (t := 28) ?hr ?_; (case hd => rfl); (case hg => rfl); (case hr => first | (go_simp; done) | (go_simp; rfl)); intro ab hg w13 hbox hb; have an := zK (below_step (zb HB) hb); have ao := zK (hbox); have aC := zK ((by rw [hg]; exact (below_size (zb HB)) : w.heap.size ≤ ab)); have aD := zK ((by rw [hg]; exact (below_size (zb HB)) : w.heap.size ≤ ab)); clear HB; have HB := an; have aa := ao; have aE := aC; have af := aD; clear an ao aC aD; clear hb hbox hg; have hcz14_0 : w13.cell? ⟨ab, 0, none⟩ = some (.slice ag ac.length ah) := (blk_cell aa.out 0).trans rfl; have hcz14_1 : w13.cell? ⟨ab, 1, none⟩ = some (.int .i64 a0_1) := (blk_cell aa.out 1).trans rfl; have hcz14_2 : w13.cell? ⟨ab, 2, none⟩ = some (.slice ai ad.length aj) := (blk_cell aa.out 2).trans rfl; have hcz14_3 : w13.cell? ⟨ab, 3, none⟩ = some (.slice ak ae.length al) := (blk_cell aa.out 3).trans rfl; have hfz14_0 := blk_frozen aa.out 0; have hfz14_1 := blk_frozen aa.out 1; have hfz14_2 := blk_frozen aa.out 2; have hfz14_3 := blk_frozen aa.out 3) | ((with_reducible refine gate_callee (f := 23) rfl ?_); refine goesL_ (some 6) rfl rfl Try.func23 (by kernel_rfl) rfl #[.agg #[.slice ag ac.length ah, .int .i64 a0_1, .slice ai ad.length aj, .slice ak ae.length al]] rfl (by (try simp only [List.map_toArray, List.map_cons, List.map_nil]); first | done | rfl | (simp only [List.length_drop, List.length_take]; rfl)) ?_; (with_reducible refine (spec_LoopOk.calls k _ _ ac a0_1 _ _ ad _ _ ae true _ ?side1 ?side2 ?side3 ?side4 ?side5 ?side6 A3.out).mono ?_); (case side1 => repeat (first | exact (Kd.C_below aq.out HB.out) | (with_reducible refine Kd.C_alloc ?_ _) | (with_reducible refine Kd.C_drewN ?_ _) | (with_reducible refine Kd.C_drew ?_))); (case side2 => exact ar.out); (case side3 => repeat (first | exact (Kd.C_below au.out HB.out) | (with_reducible refine Kd.C_alloc ?_ _) | (with_reducible refine Kd.C_drewN ?_ _) | (with_reducible refine Kd.C_drew ?_))); (case side4 => exact av.out); (case side5 => repeat (first | exact (Kd.C_below aw.out HB.out) | (with_reducible refine Kd.C_alloc ?_ _) | (with_reducible refine Kd.C_drewN ?_ _) | (with_reducible refine Kd.C_drew ?_))); (case side6 => exact ax.out); rintro e w15 ⟨rfl, hb⟩; refine ⟨_, rfl, ?_⟩; have an := zK (blk_below (g := ab) (o := .cells #[.slice ag ac.length ah, .int .i64 a0_1, .slice ai ad.length aj, .slice ak ae.length al] 28 (0, 0)) (zk aa) hb); have ao := zK (below_step (zb HB) hb); clear aa; clear HB; have aa := an; have HB := ao; clear an ao; (try clear hb); have hcz16_0 : w15.cell? ⟨ab, 0, none⟩ = some (.slice ag ac.length ah) := (blk_cell aa.out 0).trans rfl; have hcz16_1 : w15.cell? ⟨ab, 1, none⟩ = some (.int .i64 a0_1) := (blk_cell aa.out 1).trans rfl; have hcz16_2 : w15.cell? ⟨ab, 2, none⟩ = some (.slice ai ad.length aj) := (blk_cell aa.out 2).trans rfl; have hcz16_3 : w15.cell? ⟨ab, 3, none⟩ = some (.slice ak ae.length al) := (blk_cell aa.out 3).trans rfl; have hfz16_0 := blk_frozen aa.out 0; have hfz16_1 := blk_frozen aa.out 1; have hfz16_2 := blk_frozen aa.out 2; have hfz16_3 := blk_frozen aa.out 3) | (go_at_call 62; (with_reducible refine (spec_l01In.calls a1 0 (wrap64 ((ac.length : Int) - 1)) false _ A5.out).mono ?_); rintro e w' ⟨rfl, ⟨nd, rfl⟩⟩))
   go_ret
   exact ⟨by first | rfl | (simp [errW_none, errW_some] <;> rfl) | (simp [*, errW_none, errW_some] <;> rfl), by repeat (first | (with_reducible first | exact HB.out | apply zB | apply zC | apply zE | refine zS ?_ af.out) | exact HB.out)⟩
 ·replace c4 := Bool.eq_false_iff.mpr c4
  subst c4
  have H1 : (some (-1)) = some r := by rw [if_neg (show ¬ (false = true) by decide)] at H; exact H
  clear H; have H := H1; clear H1; obtain rfl := Option.some.inj H
  go_enter Try.func34, Try.ntmps34
  go_wp2_with (first | ((with_reducible refine gate_dst (N := 2) rfl ?_); (try (refine gate_guard (by rfl) ?_; dsimp only)); refine box_event ?hg (N := 2) ?hd (cs := #[.slice ag ac.length ah, .int .i64 a0_1, .slice ai ad.length aj, .slice ak ae.length al]) (t := 28) ?hr ?_; (case hd => rfl); (case hg => rfl); (case hr => first | (go_simp; done) | (go_simp; rfl)); intro ab hg w17 hbox hb; have an := zK (below_step (zb HB) hb); have ao := zK (hbox); have aC := zK ((by rw [hg]; exact (below_size (zb HB)) : w.heap.size ≤ ab)); have aD := zK ((by rw [hg]; exact (below_size (zb HB)) : w.heap.size ≤ ab)); clear HB; have HB := an; have aa := ao; have aE := aC; have af := aD; clear an ao aC aD; clear hb hbox hg; have hcz18_0 : w17.cell? ⟨ab, 0, none⟩ = some (.slice ag ac.length ah) := (blk_cell aa.out 0).trans rfl; have hcz18_1 : w17.cell? ⟨ab, 1, none⟩ = some (.int .i64 a0_1) := (blk_cell aa.out 1).trans rfl; have hcz18_2 : w17.cell? ⟨ab, 2, none⟩ = some (.slice ai ad.length aj) := (blk_cell aa.out 2).trans rfl; have hcz18_3 : w17.cell? ⟨ab, 3, none⟩ = some (.slice ak ae.length al) := (blk_cell aa.out 3).trans rfl; have hfz18_0 := blk_frozen aa.out 0; have hfz18_1 := blk_frozen aa.out 1; have hfz18_2 := blk_frozen aa.out 2; have hfz18_3 := blk_frozen aa.out 3) | ((with_reducible refine gate_callee (f := 23) rfl ?_); refine goesL_ (some 6) rfl rfl Try.func23 (by kernel_rfl) rfl #[.agg #[.slice ag ac.length ah, .int .i64 a0_1, .slice ai ad.length aj, .slice ak ae.length al]] rfl (by (try simp only [List.map_toArray, List.map_cons, List.map_nil]); first | done | rfl | (simp only [List.length_drop, List.length_take]; rfl)) ?_; (with_reducible refine (spec_LoopOk.calls k _ _ ac a0_1 _ _ ad _ _ ae false _ ?side1 ?side2 ?side3 ?side4 ?side5 ?side6 A3.out).mono ?_); (case side1 => repeat (first | exact (Kd.C_below aq.out HB.out) | (with_reducible refine Kd.C_alloc ?_ _) | (with_reducible refine Kd.C_drewN ?_ _) | (with_reducible refine Kd.C_drew ?_))); (case side2 => exact ar.out); (case side3 => repeat (first | exact (Kd.C_below au.out HB.out) | (with_reducible refine Kd.C_alloc ?_ _) | (with_reducible refine Kd.C_drewN ?_ _) | (with_reducible refine Kd.C_drew ?_))); (case side4 => exact av.out); (case side5 => repeat (first | exact (Kd.C_below aw.out HB.out) | (with_reducible refine Kd.C_alloc ?_ _) | (with_reducible refine Kd.C_drewN ?_ _) | (with_reducible refine Kd.C_drew ?_))); (case side6 => exact ax.out); rintro e w19 ⟨rfl, hb⟩; refine ⟨_, rfl, ?_⟩; have an := zK (blk_below (g := ab) (o := .cells #[.slice ag ac.length ah, .int .i64 a0_1, .slice ai ad.length aj, .slice ak ae.length al] 28 (0, 0)) (zk aa) hb); have ao := zK (below_step (zb HB) hb); clear aa; clear HB; have aa := an; have HB := ao; clear an ao; (try clear hb)))
  go_ret
  exact ⟨by first | rfl | (simp [errW_none, errW_some] <;> rfl) | (simp [*, errW_none, errW_some] <;> rfl), by repeat (first | (with_reducible first | exact HB.out | apply zB | apply zC | apply zE | refine zS ?_ af.out) | exact HB.out)⟩
def impl_TrayAt.j0 : Nat → Int → Bool → List Int → Int → List (S69) → List (S74) → Option (Int)
 | 0, _, _, _, _, _, _ => none
 | k + 1, x1, x18, x727000, x727001, x727002, x727003 => if x18 = true then (some (-1)) else ((impl_trayAt.f x727000 x727001 x727002 x727003 x1).bind fun t728 => (some t728))
def impl_TrayAt.f (k : Nat) (l0_0 : List Int) (a0_1 : Int) (l0_2 : List (S69)) (l0_3 : List (S74)) (a1 : Int) : Option (Int) := (impl_LoopOk.f k l0_0 a0_1 l0_2 l0_3).bind fun t727 => (if t727 = true then (if a1 < 0 then (impl_TrayAt.j0 k a1 true l0_0 a0_1 l0_2 l0_3) else (impl_TrayAt.j0 k a1 (decide (a1 ≥ (l0_0.length : Int))) l0_0 a0_1 l0_2 l0_3)) else (impl_TrayAt.j0 k a1 true l0_0 a0_1 l0_2 l0_3))
set_option maxHeartbeats 8000000 in
set_option maxRecDepth 100000 in
theorem impl_TrayAt.calls (k : Nat) (af : Option Addr) (ag : Nat) (ac : List Int) (a0_1 : Int) (ah : Option Addr) (ai : Nat) (ad : List (S69)) (aj : Option Addr) (ak : Nat) (ae : List (S74)) (a1 : Int) (r : Int) (w : World) (aY : Kd.C (Kd.int .i64) w af ac.length ac) (hc0_0 : ac.length ≤ ag) (aZ : Kd.C k69 w ah ad.length ad) (hc0_2 : ad.length ≤ ai) (a0 : Kd.C k74 w aj ae.length ae) (hc0_3 : ae.length ≤ ak) (h : impl_TrayAt.f k ac a0_1 ad ae a1 = some r) :
  Calls Try.prog 35 #[.agg #[.slice af ac.length ag, .int .i64 a0_1, .slice ah ad.length ai, .slice aj ae.length ak], .int .i64 a1] w fun e w' => e = .returned (.int .i64 r) ∧ Below w.heap.size w w' := by
 have hu28 := Try.underlying28; have am := zK aY; have an := zK hc0_0; clear aY hc0_0; have ao := zK aZ; have ap := zK hc0_2; clear aZ hc0_2; have aq := zK a0; have ar := zK hc0_3; clear a0 hc0_3
 have HB := zK (Below.refl w.heap.size w)
 have H : ((impl_LoopOk.f k ac a0_1 ad ae).bind fun ay => (if ay = true then (if a1 < 0 then (impl_TrayAt.j0 k a1 true ac a0_1 ad ae) else (impl_TrayAt.j0 k a1 (decide (a1 ≥ (ac.length : Int))) ac a0_1 ad ae)) else (impl_TrayAt.j0 k a1 true ac a0_1 ad ae))) = some r := h
 clear h; have HC3 := zK H; clear H
 go_enter Try.func35, Try.ntmps35
 go_upto_region 1 with (first | ((with_reducible refine gate_dst (N := 2) rfl ?_); (try (refine gate_guard (by rfl) ?_; dsimp only)); refine box_event ?hg (N := 2) ?hd (cs := #[.slice af ac.length ag, .int .i64 a0_1, .slice ah ad.length ai, .slice aj ae.length ak]) (t := 28) ?hr ?_; (case hd => rfl); (case hg => rfl); (case hr => first | (go_simp; done) | (go_simp; rfl)); intro ab hg w4 hbox hb; have au := zK (below_step (zb HB) hb); have av := zK (hbox); have n2_ := zK ((by rw [hg]; exact (below_size (zb HB)) : w.heap.size ≤ ab)); have n3_ := zK ((by rw [hg]; exact (below_size (zb HB)) : w.heap.size ≤ ab)); clear HB; have HB := au; have aa := av; have GW726 := n2_; have al := n3_; clear au av n2_ n3_; clear hb hbox hg))
 (try simp only [Act.put, zp, zq, zr])
 go_cut [18] (fun v18 wc => ∃ (kq : Nat) (aw : Bool), v18 = .bool aw ∧ Aside0 (impl_TrayAt.j0 kq a1 aw ac a0_1 ad ae = some r) ∧ Aside0 (kq ≤ k) ∧ Aside0 (wc.heap[ab]? = some (.cells #[(.slice af ac.length ag), .int .i64 a0_1, (.slice ah ad.length ai), (.slice aj ae.length ak)] 28 (0, 0))) ∧ Aside0 (Below w.heap.size w wc))
 case first =>
  have H := HC3.out; clear HC3; replace H := Option.bind_eq_some_iff.mp H
  obtain ⟨ay, A50, H⟩ := H
  replace H : (if ay = true then (if a1 < 0 then (impl_TrayAt.j0 k a1 true ac a0_1 ad ae) else (impl_TrayAt.j0 k a1 (decide (a1 ≥ (ac.length : Int))) ac a0_1 ad ae)) else (impl_TrayAt.j0 k a1 true ac a0_1 ad ae)) = some r := H
  have A5 := zK A50; clear A50
  by_cases c6 : ay = true
  ·subst c6
   have H1 : (if a1 < 0 then (impl_TrayAt.j0 k a1 true ac a0_1 ad ae) else (impl_TrayAt.j0 k a1 (decide (a1 ≥ (ac.length : Int))) ac a0_1 ad ae)) = some r := by rw [if_pos rfl] at H; exact H
   clear H; have H := H1; clear H1
   by_cases c7 : a1 < 0
   ·rw [if_pos c7] at H
    have ax : decide (a1 < 0) = true := decide_eq_true c7
    clear c7
    (first | rw [ax] | (simp only [i64_w, i32_w]; rw [ax]) | skip)
    have H' := zK H; clear H
    have a2 : w4.cell? ⟨ab, 0, none⟩ = some (.slice af ac.length ag) := (blk_cell aa.out 0).trans rfl
    have a3 : w4.cell? ⟨ab, 1, none⟩ = some (.int .i64 a0_1) := (blk_cell aa.out 1).trans rfl
    have a4 : w4.cell? ⟨ab, 2, none⟩ = some (.slice ah ad.length ai) := (blk_cell aa.out 2).trans rfl
    have a5 : w4.cell? ⟨ab, 3, none⟩ = some (.slice aj ae.length ak) := (blk_cell aa.out 3).trans rfl
    have a6 := blk_frozen aa.out 0; have a7 := blk_frozen aa.out 1; have a8 := blk_frozen aa.out 2; have a9 := blk_frozen aa.out 3
    go_wp2_with (first | ((with_reducible refine gate_callee (f := 24) rfl ?_); refine goesL_ (some 6) rfl rfl Try.func24 (by kernel_rfl) rfl #[.agg #[.slice af ac.length ag, .int .i64 a0_1, .slice ah ad.length ai, .slice aj ae.length ak]] rfl (by (try simp only [List.map_toArray, List.map_cons, List.map_nil]); first | done | rfl | (simp only [List.length_drop, List.length_take]; rfl)) ?_; (with_reducible refine (impl_LoopOk.calls k _ _ ac a0_1 _ _ ad _ _ ae true _ ?side1 ?side2 ?side3 ?side4 ?side5 ?side6 A5.out).mono ?_); (case side1 => repeat (first | exact (Kd.C_below am.out HB.out) | (with_reducible refine Kd.C_alloc ?_ _) | (with_reducible refine Kd.C_drewN ?_ _) | (with_reducible refine Kd.C_drew ?_))); (case side2 => exact an.out); (case side3 => repeat (first | exact (Kd.C_below ao.out HB.out) | (with_reducible refine Kd.C_alloc ?_ _) | (with_reducible refine Kd.C_drewN ?_ _) | (with_reducible refine Kd.C_drew ?_))); (case side4 => exact ap.out); (case side5 => repeat (first | exact (Kd.C_below aq.out HB.out) | (with_reducible refine Kd.C_alloc ?_ _) | (with_reducible refine Kd.C_drewN ?_ _) | (with_reducible refine Kd.C_drew ?_))); (case side6 => exact ar.out); rintro e w9 ⟨rfl, hb⟩; refine ⟨_, rfl, ?_⟩; have au := zK (blk_below (g := ab) (o := .cells #[.slice af ac.length ag, .int .i64 a0_1, .slice ah ad.length ai, .slice aj ae.length ak] 28 (0, 0)) (zk aa) hb); have av := zK (below_step (zb HB) hb); clear aa; clear HB; have aa := au; have HB := av; clear au av; (try clear hb)))
    go_meet
    case rel => exact ⟨_, (true), (by first | rfl | (simp; done) | (simp [*]; done)), H', ⟨by first | omega | exact Nat.le_refl _⟩, ⟨zk aa⟩, ⟨zb HB⟩⟩
   ·rw [if_neg c7] at H
    have ax : decide (a1 < 0) = false := decide_eq_false c7
    clear c7
    (first | rw [ax] | (simp only [i64_w, i32_w]; rw [ax]) | skip)
    have H' := zK H; clear H
    have az : w4.cell? ⟨ab, 0, none⟩ = some (.slice af ac.length ag) := (blk_cell aa.out 0).trans rfl
    have aA : w4.cell? ⟨ab, 1, none⟩ = some (.int .i64 a0_1) := (blk_cell aa.out 1).trans rfl
    have aB : w4.cell? ⟨ab, 2, none⟩ = some (.slice ah ad.length ai) := (blk_cell aa.out 2).trans rfl
    have aC : w4.cell? ⟨ab, 3, none⟩ = some (.slice aj ae.length ak) := (blk_cell aa.out 3).trans rfl
    have aD := blk_frozen aa.out 0; have aE := blk_frozen aa.out 1; have aF := blk_frozen aa.out 2; have aG := blk_frozen aa.out 3
    go_wp2_with (first | ((with_reducible refine gate_callee (f := 24) rfl ?_); refine goesL_ (some 6) rfl rfl Try.func24 (by kernel_rfl) rfl #[.agg #[.slice af ac.length ag, .int .i64 a0_1, .slice ah ad.length ai, .slice aj ae.length ak]] rfl (by (try simp only [List.map_toArray, List.map_cons, List.map_nil]); first | done | rfl | (simp only [List.length_drop, List.length_take]; rfl)) ?_; (with_reducible refine (impl_LoopOk.calls k _ _ ac a0_1 _ _ ad _ _ ae true _ ?side1 ?side2 ?side3 ?side4 ?side5 ?side6 A5.out).mono ?_); (case side1 => repeat (first | exact (Kd.C_below am.out HB.out) | (with_reducible refine Kd.C_alloc ?_ _) | (with_reducible refine Kd.C_drewN ?_ _) | (with_reducible refine Kd.C_drew ?_))); (case side2 => exact an.out); (case side3 => repeat (first | exact (Kd.C_below ao.out HB.out) | (with_reducible refine Kd.C_alloc ?_ _) | (with_reducible refine Kd.C_drewN ?_ _) | (with_reducible refine Kd.C_drew ?_))); (case side4 => exact ap.out); (case side5 => repeat (first | exact (Kd.C_below aq.out HB.out) | (with_reducible refine Kd.C_alloc ?_ _) | (with_reducible refine Kd.C_drewN ?_ _) | (with_reducible refine Kd.C_drew ?_))); (case side6 => exact ar.out); rintro e w11 ⟨rfl, hb⟩; refine ⟨_, rfl, ?_⟩; have au := zK (blk_below (g := ab) (o := .cells #[.slice af ac.length ag, .int .i64 a0_1, .slice ah ad.length ai, .slice aj ae.length ak] 28 (0, 0)) (zk aa) hb); have av := zK (below_step (zb HB) hb); clear aa; clear HB; have aa := au; have HB := av; clear au av; (try clear hb); have aH : w11.cell? ⟨ab, 0, none⟩ = some (.slice af ac.length ag) := (blk_cell aa.out 0).trans rfl; have aI : w11.cell? ⟨ab, 1, none⟩ = some (.int .i64 a0_1) := (blk_cell aa.out 1).trans rfl; have aJ : w11.cell? ⟨ab, 2, none⟩ = some (.slice ah ad.length ai) := (blk_cell aa.out 2).trans rfl; have aK : w11.cell? ⟨ab, 3, none⟩ = some (.slice aj ae.length ak) := (blk_cell aa.out 3).trans rfl; have aL := blk_frozen aa.out 0; have aM := blk_frozen aa.out 1; have aN := blk_frozen aa.out 2; have aO := blk_frozen aa.out 3))
    go_meet
    case rel => exact ⟨_, (decide (a1 ≥ (ac.length : Int))), (by first | rfl | (simp; done) | (simp [*]; done)), H', ⟨by first | omega | exact Nat.le_refl _⟩, ⟨zk aa⟩, ⟨zb HB⟩⟩
  ·replace c6 := Bool.eq_false_iff.mpr c6
   subst c6
   have H1 : (impl_TrayAt.j0 k a1 true ac a0_1 ad ae) = some r := by rw [if_neg (show ¬ (false = true) by decide)] at H; exact H
   clear H; have H := H1; clear H1; have H' := zK H; clear H
   have aP : w4.cell? ⟨ab, 0, none⟩ = some (.slice af ac.length ag) := (blk_cell aa.out 0).trans rfl
   have aQ : w4.cell? ⟨ab, 1, none⟩ = some (.int .i64 a0_1) := (blk_cell aa.out 1).trans rfl
   have aR : w4.cell? ⟨ab, 2, none⟩ = some (.slice ah ad.length ai) := (blk_cell aa.out 2).trans rfl
   have aS : w4.cell? ⟨ab, 3, none⟩ = some (.slice aj ae.length ak) := (blk_cell aa.out 3).trans rfl
   have aT := blk_frozen aa.out 0; have aU := blk_frozen aa.out 1; have aV := blk_frozen aa.out 2; have aW := blk_frozen aa.out 3
   go_wp2_with (first | ((with_reducible refine gate_callee (f := 24) rfl ?_); refine goesL_ (some 6) rfl rfl Try.func24 (by kernel_rfl) rfl #[.agg #[.slice af ac.length ag, .int .i64 a0_1, .slice ah ad.length ai, .slice aj ae.length ak]] rfl (by (try simp only [List.map_toArray, List.map_cons, List.map_nil]); first | done | rfl | (simp only [List.length_drop, List.length_take]; rfl)) ?_; (with_reducible refine (impl_LoopOk.calls k _ _ ac a0_1 _ _ ad _ _ ae false _ ?side1 ?side2 ?side3 ?side4 ?side5 ?side6 A5.out).mono ?_); (case side1 => repeat (first | exact (Kd.C_below am.out HB.out) | (with_reducible refine Kd.C_alloc ?_ _) | (with_reducible refine Kd.C_drewN ?_ _) | (with_reducible refine Kd.C_drew ?_))); (case side2 => exact an.out); (case side3 => repeat (first | exact (Kd.C_below ao.out HB.out) | (with_reducible refine Kd.C_alloc ?_ _) | (with_reducible refine Kd.C_drewN ?_ _) | (with_reducible refine Kd.C_drew ?_))); (case side4 => exact ap.out); (case side5 => repeat (first | exact (Kd.C_below aq.out HB.out) | (with_reducible refine Kd.C_alloc ?_ _) | (with_reducible refine Kd.C_drewN ?_ _) | (with_reducible refine Kd.C_drew ?_))); (case side6 => exact ar.out); rintro e w14 ⟨rfl, hb⟩; refine ⟨_, rfl, ?_⟩; have au := zK (blk_below (g := ab) (o := .cells #[.slice af ac.length ag, .int .i64 a0_1, .slice ah ad.length ai, .slice aj ae.length ak] 28 (0, 0)) (zk aa) hb); have av := zK (below_step (zb HB) hb); clear aa; clear HB; have aa := au; have HB := av; clear au av; (try clear hb)))
   go_meet
   case rel => exact ⟨_, (true), (by first | rfl | (simp; done) | (simp [*]; done)), H', ⟨by first | omega | exact Nat.le_refl _⟩, ⟨zk aa⟩, ⟨zb HB⟩⟩
 case rest =>
  clear HC3
  try clear c2
  try clear p2
  try clear c3
  try clear c6
  try clear c7
  try clear ax
  try clear az
  try clear aA
  try clear aB
  try clear aC
  try clear aH
  try clear aI
  try clear aJ
  try clear aK
  try clear aP
  try clear aQ
  try clear aR
  try clear aS
  try clear a2
  try clear a3
  try clear a4
  try clear a5
  try clear aD
  try clear aE
  try clear aF
  try clear aG
  try clear aL
  try clear aM
  try clear aN
  try clear aO
  try clear aT
  try clear aU
  try clear aV
  try clear aW
  try clear a6
  try clear a7
  try clear a8
  try clear a9
  obtain ⟨kq, aw, rfl, HA, HJ2, aa, HB⟩ := hcut
  cases kq with
  | zero => exact absurd HA.out (by simp [impl_TrayAt.j0])
  | succ kj2 =>
   have H := HA.out; clear HA
   simp only [impl_TrayAt.j0] at H
   by_cases c15 : aw = true
   ·subst c15
    have H1 : (some (-1)) = some r := by rw [if_pos rfl] at H; exact H
    clear H; have H := H1; clear H1; obtain rfl := Option.some.inj H
    go_wp2
    go_ret
    exact ⟨by first | rfl | (simp [errW_none, errW_some] <;> rfl) | (simp [*, errW_none, errW_some] <;> rfl), by repeat (first | (with_reducible first | exact HB.out | apply zB | apply zC | apply zE | refine zS ?_ al.out) | exact HB.out)⟩
   ·replace c15 := Bool.eq_false_iff.mpr c15
    subst c15
    have H1 : ((impl_trayAt.f ac a0_1 ad ae a1).bind fun aX => (some aX)) = some r := by rw [if_neg (show ¬ (false = true) by decide)] at H; exact H
    clear H; have H := H1; clear H1; replace H := Option.bind_eq_some_iff.mp H
    obtain ⟨aX, ba, H⟩ := H
    replace H : (some aX) = some r := H
    have A16 := zK ba; clear ba; obtain rfl := Option.some.inj H
    have hcz17_0 : wc.cell? ⟨ab, 0, none⟩ = some (.slice af ac.length ag) := (blk_cell aa.out 0).trans rfl
    have hcz17_1 : wc.cell? ⟨ab, 1, none⟩ = some (.int .i64 a0_1) := (blk_cell aa.out 1).trans rfl
    have hcz17_2 : wc.cell? ⟨ab, 2, none⟩ = some (.slice ah ad.length ai) := (blk_cell aa.out 2).trans rfl
    have hcz17_3 : wc.cell? ⟨ab, 3, none⟩ = some (.slice aj ae.length ak) := (blk_cell aa.out 3).trans rfl
    have hfz17_0 := blk_frozen aa.out 0; have hfz17_1 := blk_frozen aa.out 1; have hfz17_2 := blk_frozen aa.out 2; have hfz17_3 := blk_frozen aa.out 3
    go_wp2_with (first | ((with_reducible refine gate_callee (f := 78) rfl ?_); refine goesL_ (some 21) rfl rfl Try.func78 (by kernel_rfl) rfl #[.agg #[.slice af ac.length ag, .int .i64 a0_1, .slice ah ad.length ai, .slice aj ae.length ak], .int .i64 a1] rfl (by (try simp only [List.map_toArray, List.map_cons, List.map_nil]); first | done | rfl | (simp only [List.length_drop, List.length_take]; rfl)) ?_; (with_reducible refine (impl_trayAt.calls _ _ ac a0_1 _ _ ad _ _ ae a1 aX _ ?side1 ?side2 ?side3 ?side4 ?side5 ?side6 A16.out).mono ?_); (case side1 => repeat (first | exact (Kd.C_below am.out HB.out) | (with_reducible refine Kd.C_alloc ?_ _) | (with_reducible refine Kd.C_drewN ?_ _) | (with_reducible refine Kd.C_drew ?_))); (case side2 => exact an.out); (case side3 => repeat (first | exact (Kd.C_below ao.out HB.out) | (with_reducible refine Kd.C_alloc ?_ _) | (with_reducible refine Kd.C_drewN ?_ _) | (with_reducible refine Kd.C_drew ?_))); (case side4 => exact ap.out); (case side5 => repeat (first | exact (Kd.C_below aq.out HB.out) | (with_reducible refine Kd.C_alloc ?_ _) | (with_reducible refine Kd.C_drewN ?_ _) | (with_reducible refine Kd.C_drew ?_))); (case side6 => exact ar.out); rintro e w18 ⟨rfl, hb⟩; refine ⟨_, rfl, ?_⟩; have au := zK (blk_below (g := ab) (o := .cells #[.slice af ac.length ag, .int .i64 a0_1, .slice ah ad.length ai, .slice aj ae.length ak] 28 (0, 0)) (zk aa) hb); have av := zK (below_step (zb HB) hb); clear aa; clear HB; have aa := au; have HB := av; clear au av; (try clear hb)))
    go_ret
    exact ⟨by first | rfl | (simp [errW_none, errW_some] <;> rfl) | (simp [*, errW_none, errW_some] <;> rfl), by repeat (first | (with_reducible first | exact HB.out | apply zB | apply zC | apply zE | refine zS ?_ al.out) | exact HB.out)⟩
end Go.Proofs.Ytmjhbdmicejppaa.Px
