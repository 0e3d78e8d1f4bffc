import Derived.Test.YtheckjlldkkceaaZbPx0
import Derived.Test.YtheckjlldkkceaaZbPx3
import Derived.Test.YtheckjlldkkceaaZbPx9
import Derived.Test.YtheckjlldkkceaaZbPx10
import Derived.Test.YtheckjlldkkceaaZbPx11
namespace Go.Proofs.Ytheckjlldkkceaa.Px
open Go.RowKit Go.Proofs.YtheckjlldkkceaaW.PrintWords Go.Proofs.YtheckjlldkkceaaW.PrintLast Go.Proofs.YtheckjlldkkceaaW.PrintMore
attribute [local go_sem] max2_int min2_int max_two min_two max_three min_three max_four min_four   
set_option linter.unusedVariables false
set_option linter.unusedSimpArgs false
mutual
def spec_TakeBag.j0 : Nat → Int → List (S78) → Int → Bool → Int → List (List (S30)) → Option (Int × (List (List (S30))) × (List (S78)) × Bool)
 | 0, _, _, _, _, _, _ => none
 | k + 1, x1, x7, x8, x24, x781000, x781001 => if x24 = true then (some (x781000, x781001, x7, false)) else ((spec_l06Copy.f k x781000 x781001).bind fun bt791 => (spec_TakeBag.l0 k x1 x7 x8 x781000 x781001 bt791.1 bt791.2))
def spec_TakeBag.l0 : Nat → Int → List (S78) → Int → Int → List (List (S30)) → Int → List (List (S30)) → Option (Int × (List (List (S30))) × (List (S78)) × Bool)
 | 0, _, _, _, _, _, _, _ => none
 | k + 1, x1, x7, x8, x781000, x781001, x796000, x796001 => if 0 ≤ x8 then (if x8 < (x796001.length : Int) then (if 0 ≤ (wrap64 (((rd_L2 x796001 x8).length : Int) - 1)) then (if (wrap64 (((rd_L2 x796001 x8).length : Int) - 1)) < ((rd_L2 x796001 x8).length : Int) then (if ((rd_T30 (rd_L2 x796001 x8) (wrap64 (((rd_L2 x796001 x8).length : Int) - 1))).f0) = x1 then (if (wrap64 (((rd_L2 x796001 x8).length : Int) - 1)) ≤ ((rd_L2 x796001 x8).length : Int) then (some (x796000, (x796001.set (x8 : Int).toNat ((rd_L2 x796001 x8).take ((wrap64 (((rd_L2 x796001 x8).length : Int) - 1)) : Int).toNat)), x7, true)) else (none)) else ((spec_LaneFor.f k x796000 x796001 ((rd_T30 (rd_L2 x796001 x8) (wrap64 (((rd_L2 x796001 x8).length : Int) - 1))).f1) x8).bind fun t810 => (if t810 < 0 then (some (x781000, x781001, (([] : List (S78))), false)) else ((spec_l06Hop.f k x796000 x796001 x8 t810).bind fun bt814 => (if x7.length < 5864062014805 then (spec_TakeBag.l0 k x1 (x7 ++ [(⟨(rd_T30 (rd_L2 x796001 x8) (wrap64 (((rd_L2 x796001 x8).length : Int) - 1))).f0, x8, t810⟩ : S78)]) x8 x781000 x781001 bt814.1 bt814.2) else (none)))))) else (none)) else (none)) else (none)) else (none)
end
def spec_TakeBag.f (k : Nat) (a0_0 : Int) (l0_1 : List (List (S30))) (a1 : Int) : Option (Int × (List (List (S30))) × (List (S78)) × Bool) := (spec_l06Copy.f k a0_0 l0_1).bind fun bt782 => ((some (([] : List (S78)) : List (S78))).bind fun y786 => ((spec_l06Find.f k bt782.1 bt782.2 a1).bind fun t789 => ((spec_StoreOk.f k bt782.1 bt782.2).bind fun t790 => (if t790 = true then (spec_TakeBag.j0 k a1 y786 t789 (decide (t789 < 0)) bt782.1 bt782.2) else (spec_TakeBag.j0 k a1 y786 t789 true bt782.1 bt782.2)))))
def spec_TakeBag.T7 : Bool × List (List Nat × List Nat) := (true, [([], []), ([0], [0]), ([], []), ([1, 2], [1, 2]), ([3], [3]), ([], []), ([5], [5]), ([], []), ([6, 7], [6, 7]), ([8], [8]), ([9], [9]), ([10], [10]), ([4, 11], [4, 11]), ([12], [12]), ([13], [13]), ([], []), ([14, 15], [14, 15])])
def spec_TakeBag.B7 : List Nat := [0, 1, 0, 7, 15, 0, 32, 0, 224, 480, 992, 2016, 4095, 8191, 16383, 0, 65535]
theorem spec_TakeBag.tab7 : rtab .any (opsOf Try.f38 7) = spec_TakeBag.T7 := by kernel_rfl
theorem spec_TakeBag.bits7 : waitsOk spec_TakeBag.T7.2 spec_TakeBag.B7 = true := by kernel_rfl
def spec_TakeBag.T8 : Bool × List (List Nat × List Nat) := (true, [([], []), ([0], [0]), ([], []), ([1, 2], [1, 2]), ([3], [3]), ([], []), ([5], [5]), ([], []), ([6, 7], [6, 7]), ([8], [8]), ([9], [9]), ([10], [10]), ([4, 11], [4, 11]), ([12], [12]), ([], []), ([14, 13, 0, 1, 2, 3, 4, 5, 6, 7, 8, 9, 10, 11, 12, 13, 14], [13, 14])])
def spec_TakeBag.B8 : List Nat := [0, 1, 0, 7, 15, 0, 32, 0, 224, 480, 992, 2016, 4095, 8191, 0, 32767]
theorem spec_TakeBag.tab8 : rtab .any (opsOf Try.f38 8) = spec_TakeBag.T8 := by kernel_rfl
theorem spec_TakeBag.bits8 : waitsOk spec_TakeBag.T8.2 spec_TakeBag.B8 = true := by kernel_rfl
def spec_TakeBag.T14 : Bool × List (List Nat × List Nat) := (true, [([], []), ([0], [0]), ([], []), ([], []), ([3], [3]), ([], []), ([4, 5], [4, 5]), ([6], [6]), ([], []), ([8], [8]), ([], []), ([9, 10], [9, 10]), ([11], [11]), ([12], [12]), ([13], [13]), ([7, 14], [7, 14]), ([1, 2, 0, 1, 2, 3, 4, 5, 6, 7, 8, 9, 10, 11, 12, 13, 14, 15], [1, 2]), ([16, 15, 0, 1, 2, 3, 4, 5, 6, 7, 8, 9, 10, 11, 12, 13, 14, 15], [15, 16])])
def spec_TakeBag.B14 : List Nat := [0, 1, 0, 0, 8, 0, 56, 120, 0, 256, 0, 1792, 3840, 7936, 16128, 32760, 65535, 131071]
theorem spec_TakeBag.tab14 : rtab .any (opsOf Try.f38 14) = spec_TakeBag.T14 := by kernel_rfl
theorem spec_TakeBag.bits14 : waitsOk spec_TakeBag.T14.2 spec_TakeBag.B14 = true := by kernel_rfl
set_option maxHeartbeats 8000000 in
set_option maxRecDepth 100000 in
theorem spec_TakeBag.calls (k : Nat) (a0_0 : Int) (ce : Option Addr) (cf : Nat) (bF : List (List (S30))) (a1 : Int) (r1 : Int) (r2 : List (List (S30))) (r3 : List (S78)) (r4 : Bool) (w : World) (er : Kd.C (Kd.slice 30 k30) w ce bF.length bF) (hc0_1 : bF.length ≤ cf) (h : spec_TakeBag.f k a0_0 bF a1 = some (r1, r2, r3, r4)) :
  Calls Try.prog 38 #[.agg #[.int .i64 a0_0, .slice ce bF.length cf], .int .i64 a1] w fun e w' => ∃ v1_ v2_ : Value, e = .returned (.tuple #[.agg #[.int .i64 r1, v1_], v2_, .bool r4]) ∧ Kd.S (Kd.slice 30 k30) 28 w' w.heap.size (fun _ => True) v1_ r2 ∧ Kd.R k78 78 w' w.heap.size (fun _ => True) v2_ r3 ∧ Below w.heap.size w w' := by
 have hu24 := Try.underlying24; have hu30 := Try.underlying30; have hu78 := Try.underlying78; have eZ := zK er; have e0 := zK hc0_1; clear er hc0_1
 have HB := zK (Below.refl w.heap.size w)
 have H : ((spec_l06Copy.f k a0_0 bF).bind fun bt782 => ((some (([] : List (S78)) : List (S78))).bind fun bA => ((spec_l06Find.f k bt782.1 bt782.2 a1).bind fun ac => ((spec_StoreOk.f k bt782.1 bt782.2).bind fun cr => (if cr = true then (spec_TakeBag.j0 k a1 bA ac (decide (ac < 0)) bt782.1 bt782.2) else (spec_TakeBag.j0 k a1 bA ac true bt782.1 bt782.2)))))) = some (r1, r2, r3, r4) := h
 clear h; replace H := Option.bind_eq_some_iff.mp H
 obtain ⟨⟨av, aq⟩, A30, H⟩ := H
 replace H : ((some (([] : List (S78)) : List (S78))).bind fun bA => ((spec_l06Find.f k av aq a1).bind fun ac => ((spec_StoreOk.f k av aq).bind fun cr => (if cr = true then (spec_TakeBag.j0 k a1 bA ac (decide (ac < 0)) av aq) else (spec_TakeBag.j0 k a1 bA ac true av aq))))) = some (r1, r2, r3, r4) := H
 have A3 := zK A30; clear A30
 obtain ⟨bA, cC⟩ : ∃ y_ : List (S78), y_ = (([] : List (S78))) := ⟨_, rfl⟩
 replace H : ((spec_l06Find.f k av aq a1).bind fun ac => ((spec_StoreOk.f k av aq).bind fun cr => (if cr = true then (spec_TakeBag.j0 k a1 bA ac (decide (ac < 0)) av aq) else (spec_TakeBag.j0 k a1 bA ac true av aq)))) = some (r1, r2, r3, r4) := by first | (rw [cC]; with_reducible exact H) | (have H2_ := (Option.bind_some _ _).symm.trans H; rw [cC]; with_reducible exact H2_) | (have H2_ := (Option.bind_some _ _).symm.trans H; with_reducible exact H2_) | with_reducible exact H | (rw [cC]; exact H) | exact H
 have Ny786 := zK cC; clear cC; replace H := Option.bind_eq_some_iff.mp H
 obtain ⟨ac, A40, H⟩ := H
 replace H : ((spec_StoreOk.f k av aq).bind fun cr => (if cr = true then (spec_TakeBag.j0 k a1 bA ac (decide (ac < 0)) av aq) else (spec_TakeBag.j0 k a1 bA ac true av aq))) = some (r1, r2, r3, r4) := H
 have A4 := zK A40; clear A40; have HC5 := zK H; clear H
 go_enter Try.func38, Try.ntmps38
 go_upto_region 4 with (first | ((with_reducible refine gate_dst (N := 2) rfl ?_); refine box_event ?hg (N := 2) ?hd (cs := #[.int .i64 a0_0, .slice ce bF.length cf]) (t := 24) ?hr ?_; (case hd => rfl); (case hg => rfl); (case hr => first | (go_simp; done) | (go_simp; rfl)); intro ar hg w6 hbox hb; have aV := zK (below_step (zb HB) hb); have aW := zK (hbox); have aX := zK ((by rw [hg]; exact (below_size (zb HB)) : w.heap.size ≤ ar)); have aY := zK ((by rw [hg]; exact (below_size (zb HB)) : w.heap.size ≤ ar)); clear HB; have HB := aV; have af := aW; have GW780 := aX; have aG := aY; clear aV aW aX aY; clear hb hbox hg) | ((with_reducible refine gate_dst (N := 4) rfl ?_); refine box_event ?hg (N := 4) ?hd (cs := #[.int .i64 0, .slice none 0 0]) (t := 24) ?hr ?_; (case hd => rfl); (case hg => rfl); (case hr => first | (go_simp; done) | (go_simp; rfl)); intro au hg w7 hbox hb; have aV := zK (blk_below (g := ar) (o := .cells #[.int .i64 a0_0, .slice ce bF.length cf] 24 (0, 0)) (zk af) hb); have aW := zK (below_step (zb HB) hb); have aX := zK (hbox); have aY := zK ((by rw [hg]; exact (below_size (zb HB)) : w.heap.size ≤ au)); have a5 := zK ((by rw [hg]; exact (below_size (zb HB)) : w.heap.size ≤ au)); have bj := zK ((by rw [hg]; exact Nat.ne_of_lt (blk_lt (g := ar) (o := .cells #[.int .i64 a0_0, .slice ce bF.length cf] 24 (0, 0)) (zk af)) : ar ≠ au)); have bm := zK ((by rw [hg]; exact Nat.ne_of_gt (blk_lt (g := ar) (o := .cells #[.int .i64 a0_0, .slice ce bF.length cf] 24 (0, 0)) (zk af)) : au ≠ ar)); clear af; clear HB; have af := aV; have HB := aW; have ah := aX; have GW781 := aY; have aH := a5; have bf := bj; have aZ := bm; clear aV aW aX aY a5 bj bm; clear hb hbox hg; have hnb8 := bf.out; have hnc8 := aZ.out; have du : w7.cell? ⟨ar, 0, none⟩ = some (.int .i64 a0_0) := (blk_cell af.out 0).trans rfl; have dv : w7.cell? ⟨ar, 1, none⟩ = some (.slice ce bF.length cf) := (blk_cell af.out 1).trans rfl; have dw := blk_frozen af.out 0; have dx := blk_frozen af.out 1) | ((with_reducible refine gate_callee (f := 69) rfl ?_); refine goesL_ (some 13) rfl rfl Try.func69 (by kernel_rfl) rfl #[.agg #[.int .i64 a0_0, .slice ce bF.length cf]] rfl (by (try simp only [List.map_toArray, List.map_cons, List.map_nil]); first | done | rfl | (simp only [List.length_drop, List.length_take]; rfl)) ?_; (with_reducible refine (spec_l06Copy.calls k a0_0 _ _ bF av aq _ ?side1 ?side2 A3.out).mono ?_); (case side1 => repeat (first | exact (Kd.C_below eZ.out HB.out) | (with_reducible refine Kd.C_alloc ?_ _) | (with_reducible refine Kd.C_drewN ?_ _) | (with_reducible refine Kd.C_drew ?_))); (case side2 => exact e0.out); rintro e w10 ⟨v784, rfl, ho0, hb⟩; refine ⟨_, rfl, ?_⟩; have aV := zK (Kd.S_lower ho0 (below_size (zb HB))); have aW := zK (blk_below (g := ar) (o := .cells #[.int .i64 a0_0, .slice ce bF.length cf] 24 (0, 0)) (zk af) hb); have aX := zK (blk_below (g := au) (o := .cells #[.int .i64 0, .slice none 0 0] 24 (0, 0)) (zk ah) hb); have aY := zK (below_step (zb HB) hb); clear af; clear ah; clear HB; have a3 := aV; have af := aW; have ah := aX; have HB := aY; clear aV aW aX aY; (try clear hb); (try clear hk); (try clear ho0); have cS : w10.cell? ⟨ar, 0, none⟩ = some (.int .i64 a0_0) := (blk_cell af.out 0).trans rfl; have cT : w10.cell? ⟨ar, 1, none⟩ = some (.slice ce bF.length cf) := (blk_cell af.out 1).trans rfl; have cU := blk_frozen af.out 0; have cV := blk_frozen af.out 1; obtain ⟨aK, aM, eo12⟩ := Kd.S_slice a3.out; subst eo12) | ((with_reducible refine gate_dst (N := 14) rfl ?_); refine Kd.R_lit k78 _ 78 ?hg (N := 14) ?hd (xs := ([] : List (S78))) (inner := []) (ok := fun _ => True) (okp := fun _ => True) ?hr ?hp (fun _ hk => hk) trivial (Below.refl _ _) (Nat.le_refl _) (by simp) ?_; (case hd => rfl); (case hg => rfl); (case hr => first | (go_simp; done) | (go_simp; rfl)); (case hp => exact (Reps.none _ _)); intro v787 w13 ho14 hb hg_ hnew_; clear hg_ hnew_; (first | rw [← Ny786.out] at ho14 | (simp only [Int.reduceToNat] at ho14; rw [← Ny786.out] at ho14)); have aV := zK (Kd.S_below (by (with_reducible repeat (first | apply Kd.S_alloc | apply Kd.S_drewN | apply Kd.S_drew)); exact (Kd.S_mono (Kd.S_far (p := ⟨ar, 1, none⟩) (Kd.S_far (p := ⟨ar, 0, none⟩) (Kd.S_types a3.out af.out (by decide)) (fun _ hk => hk.2) (.int .i64 av)) (fun _ hk => hk.2) (.slice aK aq.length aM)) (fun _ h_ => h_.1))) hb); have aW := zK (Kd.R_lower ho14 (below_size (zb HB))); have aX := zK (blk_below (g := ar) (o := .cells #[.int .i64 av, .slice aK aq.length aM] 24 (0, 0)) (by (with_reducible repeat (first | refine zN ?_ _ | refine zD ?_ | refine zA ?_ _)); refine blk_put (cs := #[.int .i64 av, .slice ce bF.length cf]) ?_ 1 _ rfl; (with_reducible repeat (first | refine zN ?_ _ | refine zD ?_ | refine zA ?_ _)); refine blk_put (cs := #[.int .i64 a0_0, .slice ce bF.length cf]) ?_ 0 _ rfl; (with_reducible repeat (first | refine zN ?_ _ | refine zD ?_ | refine zA ?_ _)); exact af.out) hb); have aY := zK (blk_below (g := au) (o := .cells #[.int .i64 0, .slice none 0 0] 24 (0, 0)) (by (with_reducible repeat (first | refine zN ?_ _ | refine zD ?_ | refine zA ?_ _)); refine blk_far ?_ aZ.out _; (with_reducible repeat (first | refine zN ?_ _ | refine zD ?_ | refine zA ?_ _)); refine blk_far ?_ aZ.out _; (with_reducible repeat (first | refine zN ?_ _ | refine zD ?_ | refine zA ?_ _)); exact ah.out) hb); have a5 := zK (below_step (zb HB) hb); clear a3; clear af; clear ah; clear HB; have a3 := aV; have bG := aW; have af := aX; have ah := aY; have HB := a5; clear aV aW aX aY a5; clear hb ho14; have cW : w13.cell? ⟨ar, 0, none⟩ = some (.int .i64 av) := (blk_cell af.out 0).trans rfl; have cX : w13.cell? ⟨ar, 1, none⟩ = some (.slice aK aq.length aM) := (blk_cell af.out 1).trans rfl; have cY := blk_frozen af.out 0; have cZ := blk_frozen af.out 1) | ((with_reducible refine gate_callee (f := 70) rfl ?_); refine goesL_ (some 17) rfl rfl Try.func70 (by kernel_rfl) rfl #[.agg #[.int .i64 av, .slice aK aq.length aM], .int .i64 a1] rfl (by (try simp only [List.map_toArray, List.map_cons, List.map_nil]); first | done | rfl | (simp only [List.length_drop, List.length_take]; rfl)) ?_; (with_reducible refine (spec_l06Find.calls k av _ _ aq a1 ac _ ?side1 ?side2 A4.out).mono ?_); (case side1 => repeat (first | exact (Kd.S_reads' a3.out).2.2 | (with_reducible refine Kd.C_alloc ?_ _) | (with_reducible refine Kd.C_drewN ?_ _) | (with_reducible refine Kd.C_drew ?_))); (case side2 => exact (Kd.S_reads' a3.out).2.1); rintro e w16 ⟨rfl, hb⟩; refine ⟨_, rfl, ?_⟩; have aV := zK (Kd.S_below (zT a3) hb); have aW := zK (Kd.R_below (zR bG) hb); have aX := zK (blk_below (g := ar) (o := .cells #[.int .i64 av, .slice aK aq.length aM] 24 (0, 0)) (zk af) hb); have aY := zK (blk_below (g := au) (o := .cells #[.int .i64 0, .slice none 0 0] 24 (0, 0)) (zk ah) hb); have a5 := zK (below_step (zb HB) hb); clear a3; clear bG; clear af; clear ah; clear HB; have a3 := aV; have bG := aW; have af := aX; have ah := aY; have HB := a5; clear aV aW aX aY a5; (try clear hb); (try clear hk)))
 (try simp only [Act.put, zp, zq, zr])
 go_cut [24] (fun v24 wc => ∃ (kq : Nat) (c0 : Bool), v24 = .bool c0 ∧ Aside0 (spec_TakeBag.j0 kq a1 bA ac c0 av aq = some (r1, r2, r3, r4)) ∧ Aside0 (kq ≤ k) ∧ Aside0 (Kd.R k78 78 wc w.heap.size (fun _ => True) v787 bA) ∧ Aside0 (Kd.S (Kd.slice 30 k30) 28 wc w.heap.size (fun _ => True) (.slice aK aq.length aM) aq) ∧ Aside0 (wc.heap[ar]? = some (.cells #[.int .i64 av, (.slice aK aq.length aM)] 24 (0, 0))) ∧ Aside0 (wc.heap[au]? = some (.cells #[.int .i64 0, (.slice none 0 0)] 24 (0, 0))) ∧ Aside0 (Below w.heap.size w wc))
 case first =>
  have H := HC5.out; clear HC5; replace H := Option.bind_eq_some_iff.mp H
  obtain ⟨cr, e1, H⟩ := H
  replace H : (if cr = true then (spec_TakeBag.j0 k a1 bA ac (decide (ac < 0)) av aq) else (spec_TakeBag.j0 k a1 bA ac true av aq)) = some (r1, r2, r3, r4) := H
  have A17 := zK e1; clear e1
  by_cases eV : cr = true
  ·subst eV
   have H1 : (spec_TakeBag.j0 k a1 bA ac (decide (ac < 0)) av aq) = some (r1, r2, r3, r4) := by rw [if_pos rfl] at H; exact H
   clear H; have H := H1; clear H1; have H' := zK H; clear H; have hnb19 := bf.out; have hnc19 := aZ.out
   have da : w16.cell? ⟨ar, 0, none⟩ = some (.int .i64 av) := (blk_cell af.out 0).trans rfl
   have db : w16.cell? ⟨ar, 1, none⟩ = some (.slice aK aq.length aM) := (blk_cell af.out 1).trans rfl
   have dc := blk_frozen af.out 0; have dd := blk_frozen af.out 1
   go_wp2_with (first | ((with_reducible refine gate_callee (f := 15) rfl ?_); refine goesL_ (some 19) rfl rfl Try.func15 (by kernel_rfl) rfl #[.agg #[.int .i64 av, .slice aK aq.length aM]] rfl (by (try simp only [List.map_toArray, List.map_cons, List.map_nil]); first | done | rfl | (simp only [List.length_drop, List.length_take]; rfl)) ?_; (with_reducible refine (spec_StoreOk.calls k av _ _ aq true _ ?side1 ?side2 A17.out).mono ?_); (case side1 => repeat (first | exact (Kd.S_reads' a3.out).2.2 | (with_reducible refine Kd.C_alloc ?_ _) | (with_reducible refine Kd.C_drewN ?_ _) | (with_reducible refine Kd.C_drew ?_))); (case side2 => exact (Kd.S_reads' a3.out).2.1); rintro e w21 ⟨rfl, hb⟩; refine ⟨_, rfl, ?_⟩; have aV := zK (Kd.S_below (zT a3) hb); have aW := zK (Kd.R_below (zR bG) hb); have aX := zK (blk_below (g := ar) (o := .cells #[.int .i64 av, .slice aK aq.length aM] 24 (0, 0)) (zk af) hb); have aY := zK (blk_below (g := au) (o := .cells #[.int .i64 0, .slice none 0 0] 24 (0, 0)) (zk ah) hb); have a5 := zK (below_step (zb HB) hb); clear a3; clear bG; clear af; clear ah; clear HB; have a3 := aV; have bG := aW; have af := aX; have ah := aY; have HB := a5; clear aV aW aX aY a5; (try clear hb)))
   go_meet
   case rel => exact ⟨_, (decide (ac < 0)), (by first | rfl | (simp; done) | (simp [*]; done)), H', ⟨by first | omega | exact Nat.le_refl _⟩, ⟨zR bG⟩, ⟨zT a3⟩, ⟨zk af⟩, ⟨zk ah⟩, ⟨zb HB⟩⟩
  ·replace eV := Bool.eq_false_iff.mpr eV
   subst eV
   have H1 : (spec_TakeBag.j0 k a1 bA ac true av aq) = some (r1, r2, r3, r4) := by rw [if_neg (show ¬ (false = true) by decide)] at H; exact H
   clear H; have H := H1; clear H1; have H' := zK H; clear H; have hnb22 := bf.out; have hnc22 := aZ.out
   have de : w16.cell? ⟨ar, 0, none⟩ = some (.int .i64 av) := (blk_cell af.out 0).trans rfl
   have df : w16.cell? ⟨ar, 1, none⟩ = some (.slice aK aq.length aM) := (blk_cell af.out 1).trans rfl
   have dg := blk_frozen af.out 0; have dh := blk_frozen af.out 1
   go_wp2_with (first | ((with_reducible refine gate_callee (f := 15) rfl ?_); refine goesL_ (some 19) rfl rfl Try.func15 (by kernel_rfl) rfl #[.agg #[.int .i64 av, .slice aK aq.length aM]] rfl (by (try simp only [List.map_toArray, List.map_cons, List.map_nil]); first | done | rfl | (simp only [List.length_drop, List.length_take]; rfl)) ?_; (with_reducible refine (spec_StoreOk.calls k av _ _ aq false _ ?side1 ?side2 A17.out).mono ?_); (case side1 => repeat (first | exact (Kd.S_reads' a3.out).2.2 | (with_reducible refine Kd.C_alloc ?_ _) | (with_reducible refine Kd.C_drewN ?_ _) | (with_reducible refine Kd.C_drew ?_))); (case side2 => exact (Kd.S_reads' a3.out).2.1); rintro e w24 ⟨rfl, hb⟩; refine ⟨_, rfl, ?_⟩; have aV := zK (Kd.S_below (zT a3) hb); have aW := zK (Kd.R_below (zR bG) hb); have aX := zK (blk_below (g := ar) (o := .cells #[.int .i64 av, .slice aK aq.length aM] 24 (0, 0)) (zk af) hb); have aY := zK (blk_below (g := au) (o := .cells #[.int .i64 0, .slice none 0 0] 24 (0, 0)) (zk ah) hb); have a5 := zK (below_step (zb HB) hb); clear a3; clear bG; clear af; clear ah; clear HB; have a3 := aV; have bG := aW; have af := aX; have ah := aY; have HB := a5; clear aV aW aX aY a5; (try clear hb)))
   go_meet
   case rel => exact ⟨_, (true), (by first | rfl | (simp; done) | (simp [*]; done)), H', ⟨by first | omega | exact Nat.le_refl _⟩, ⟨zR bG⟩, ⟨zT a3⟩, ⟨zk af⟩, ⟨zk ah⟩, ⟨zb HB⟩⟩
 case rest =>
  clear HC5
  try clear c1
  try clear c2
  try clear p2
  try clear c3
  try clear c6
  try clear c7
  try clear c8
  try clear c15
  try clear eV
  try clear c19
  try clear c22
  try clear cS
  try clear cT
  try clear cW
  try clear cX
  try clear da
  try clear db
  try clear de
  try clear df
  try clear du
  try clear dv
  try clear cU
  try clear cV
  try clear cY
  try clear cZ
  try clear dc
  try clear dd
  try clear dg
  try clear dh
  try clear dw
  try clear dx
  obtain ⟨kq, c0, rfl, HA, HJ4, aw, ad, af, ah, HB⟩ := hcut
  cases kq with
  | zero => exact absurd HA.out (by simp [spec_TakeBag.j0])
  | succ kj4 =>
   have H := HA.out; clear HA
   simp only [spec_TakeBag.j0] at H
   by_cases e2 : c0 = true
   ·subst e2
    have H1 : (some (av, aq, bA, false)) = some (r1, r2, r3, r4) := by rw [if_pos rfl] at H; exact H
    clear H; have H := H1; clear H1
    simp only [Option.some.injEq, Prod.mk.injEq] at H
    obtain ⟨rfl, rfl, rfl, rfl⟩ := H
    have hnb26 := bf.out; have hnc26 := aZ.out
    have dU : wc.cell? ⟨ar, 0, none⟩ = some (.int .i64 av) := (blk_cell af.out 0).trans rfl
    have dV : wc.cell? ⟨ar, 1, none⟩ = some (.slice aK aq.length aM) := (blk_cell af.out 1).trans rfl
    have dW := blk_frozen af.out 0; have dX := blk_frozen af.out 1
    have dY : wc.cell? ⟨au, 0, none⟩ = some (.int .i64 0) := (blk_cell ah.out 0).trans rfl
    have dZ : wc.cell? ⟨au, 1, none⟩ = some (.slice none 0 0) := (blk_cell ah.out 1).trans rfl
    have d0 := blk_frozen ah.out 0; have d1 := blk_frozen ah.out 1
    go_wp2
    refine bodyPost_ret (results_ctt rfl _ _ au 24 #[.int .i64 av, .slice aK aq.length aM] (0, 0) _ rfl (by (with_reducible repeat (first | refine zN ?_ _ | refine zD ?_ | refine zA ?_ _)); refine blk_put (cs := #[.int .i64 av, .slice none 0 0]) ?_ 1 _ rfl; (with_reducible repeat (first | refine zN ?_ _ | refine zD ?_ | refine zA ?_ _)); refine blk_put (cs := #[.int .i64 0, .slice none 0 0]) ?_ 0 _ rfl; (with_reducible repeat (first | refine zN ?_ _ | refine zD ?_ | refine zA ?_ _)); exact ah.out) Try.underlying24 rfl (by kernel_rfl)) rfl ?_
    exact ⟨_, _, by first | rfl | (simp [errW_none, errW_some] <;> rfl) | (simp [*, errW_none, errW_some] <;> rfl), by (with_reducible repeat (first | apply Kd.S_alloc | apply Kd.S_drewN | apply Kd.S_drew)); exact Kd.S_mono (Kd.S_far (p := ⟨au, 1, none⟩) (Kd.S_far (p := ⟨au, 0, none⟩) (Kd.S_types ad.out ah.out (by decide)) (fun _ hk => hk.2) (.int .i64 av)) (fun _ hk => hk.2) (.slice aK aq.length aM)) (fun _ hk => trivial), by (with_reducible repeat (first | apply Kd.R_alloc | apply Kd.R_drewN | apply Kd.R_drew)); exact Kd.R_mono (Kd.R_far (p := ⟨au, 1, none⟩) (Kd.R_far (p := ⟨au, 0, none⟩) (Kd.R_types aw.out ah.out (by decide)) (fun _ hk => hk.2) (.int .i64 av)) (fun _ hk => hk.2) (.slice aK aq.length aM)) (fun _ hk => trivial), by repeat (first | (with_reducible first | exact HB.out | apply zB | apply zC | apply zE | refine zS ?_ aG.out | refine zS ?_ aH.out) | exact HB.out)⟩
   ·replace e2 := Bool.eq_false_iff.mpr e2
    subst e2
    have H1 : ((spec_l06Copy.f kj4 av aq).bind fun bt791 => (spec_TakeBag.l0 kj4 a1 bA ac av aq bt791.1 bt791.2)) = some (r1, r2, r3, r4) := by rw [if_neg (show ¬ (false = true) by decide)] at H; exact H
    clear H; have H := H1; clear H1; replace H := Option.bind_eq_some_iff.mp H
    obtain ⟨⟨cK, cL⟩, e3, H⟩ := H
    replace H : (spec_TakeBag.l0 kj4 a1 bA ac av aq cK cL) = some (r1, r2, r3, r4) := H
    have A29 := zK e3; clear e3; have H' := zK H; clear H; have hnb30 := bf.out; have hnc30 := aZ.out
    have d2 : wc.cell? ⟨ar, 0, none⟩ = some (.int .i64 av) := (blk_cell af.out 0).trans rfl
    have d3 : wc.cell? ⟨ar, 1, none⟩ = some (.slice aK aq.length aM) := (blk_cell af.out 1).trans rfl
    have d4 := blk_frozen af.out 0; have d5 := blk_frozen af.out 1
    go_wp2_with (first | ((with_reducible refine gate_callee (f := 69) rfl ?_); refine goesL_ (some 28) rfl rfl Try.func69 (by kernel_rfl) rfl #[.agg #[.int .i64 av, .slice aK aq.length aM]] rfl (by (try simp only [List.map_toArray, List.map_cons, List.map_nil]); first | done | rfl | (simp only [List.length_drop, List.length_take]; rfl)) ?_; (with_reducible refine (spec_l06Copy.calls kj4 av _ _ aq cK cL _ ?side1 ?side2 A29.out).mono ?_); (case side1 => repeat (first | exact (Kd.S_reads' ad.out).2.2 | (with_reducible refine Kd.C_alloc ?_ _) | (with_reducible refine Kd.C_drewN ?_ _) | (with_reducible refine Kd.C_drew ?_))); (case side2 => exact (Kd.S_reads' ad.out).2.1); rintro e w32 ⟨v793, rfl, ho0, hb⟩; refine ⟨_, rfl, ?_⟩; have aV := zK (Kd.R_below (zR aw) hb); have aW := zK (Kd.S_elder' (zT ad) (Kd.S_base ho0) hb); have aX := zK (Kd.S_lower (Kd.S_new' ho0 (Kd.S_lt (zT ad))) (below_size (zb HB))); have aY := zK (blk_below (g := ar) (o := .cells #[.int .i64 av, .slice aK aq.length aM] 24 (0, 0)) (zk af) hb); have a5 := zK (blk_below (g := au) (o := .cells #[.int .i64 0, .slice none 0 0] 24 (0, 0)) (zk ah) hb); have bj := zK (below_step (zb HB) hb); clear aw; clear ad; clear af; clear ah; clear HB; have aw := aV; have ad := aW; have cD := aX; have af := aY; have ah := a5; have HB := bj; clear aV aW aX aY a5 bj; (try clear hb); (try clear ho0)) | ((with_reducible refine gate_dst (N := 9) rfl ?_); refine box_event ?hg (N := 9) ?hd (cs := #[.int .i64 0, .slice none 0 0]) (t := 24) ?hr ?_; (case hd => rfl); (case hg => rfl); (case hr => first | (go_simp; done) | (go_simp; rfl)); intro al hg w33 hbox hb; have aV := zK (Kd.R_below (zR aw) hb); have aW := zK (Kd.S_below (zT ad) hb); have aX := zK (Kd.S_below (zT cD) hb); have aY := zK (blk_below (g := ar) (o := .cells #[.int .i64 av, .slice aK aq.length aM] 24 (0, 0)) (zk af) hb); have a5 := zK (blk_below (g := au) (o := .cells #[.int .i64 0, .slice none 0 0] 24 (0, 0)) (zk ah) hb); have bj := zK (below_step (zb HB) hb); have bm := zK (hbox); have bW := zK ((by rw [hg]; exact (below_size (zb HB)) : w.heap.size ≤ al)); have bX := zK ((by rw [hg]; exact (below_size (zb HB)) : w.heap.size ≤ al)); have bY := zK ((by rw [hg]; exact Nat.ne_of_lt (blk_lt (g := ar) (o := .cells #[.int .i64 av, .slice aK aq.length aM] 24 (0, 0)) (zk af)) : ar ≠ al)); have a4 := zK ((by rw [hg]; exact Nat.ne_of_gt (blk_lt (g := ar) (o := .cells #[.int .i64 av, .slice aK aq.length aM] 24 (0, 0)) (zk af)) : al ≠ ar)); have bn := zK ((by rw [hg]; exact Nat.ne_of_lt (blk_lt (g := au) (o := .cells #[.int .i64 0, .slice none 0 0] 24 (0, 0)) (zk ah)) : au ≠ al)); have bo := zK ((by rw [hg]; exact Nat.ne_of_gt (blk_lt (g := au) (o := .cells #[.int .i64 0, .slice none 0 0] 24 (0, 0)) (zk ah)) : al ≠ au)); clear aw; clear ad; clear cD; clear af; clear ah; clear HB; have aw := aV; have ad := aW; have cD := aX; have af := aY; have ah := a5; have HB := bj; have ag := bm; have GW795 := bW; have a8 := bX; have a6 := bY; have bR := a4; have a7 := bn; have bS := bo; clear aV aW aX aY a5 bj bm bW bX bY a4 bn bo; clear hb hbox hg; have hnb34 := bR.out; have hnc34 := a6.out; have hnb35 := bS.out; have hnc35 := a7.out; have d6 : w33.cell? ⟨al, 0, none⟩ = some (.int .i64 0) := (blk_cell ag.out 0).trans rfl; have d7 : w33.cell? ⟨al, 1, none⟩ = some (.slice none 0 0) := (blk_cell ag.out 1).trans rfl; have d8 := blk_frozen ag.out 0; have d9 := blk_frozen ag.out 1; obtain ⟨ea, eb, eo37⟩ := Kd.S_slice cD.out; subst eo37))
    go_loopg [7] kj4 (fun kq v7 w' => ∃ (bV : List (S78)) (ax : Int) (ai : Int) (aa : List (List (S30))) (u796001 : Value), Aside0 (spec_TakeBag.l0 kq a1 bV ac av aq ai aa = some (r1, r2, r3, r4)) ∧ Aside0 (kq ≤ kj4) ∧ Aside0 (Kd.R k78 78 w' w.heap.size (fun _ => True) v7 bV) ∧ Aside0 (Kd.S (Kd.slice 30 k30) 28 w' w.heap.size (fun k_ => some k_ ≠ (u796001 : Value).ownBlock) (.slice aK aq.length aM) aq) ∧ Aside0 (Kd.S (Kd.slice 30 k30) 28 w' w.heap.size (fun k_ => some k_ ≠ ((.slice aK aq.length aM) : Value).ownBlock) u796001 aa) ∧ Aside0 (w'.heap[ar]? = some (.cells #[.int .i64 av, (.slice aK aq.length aM)] 24 (0, 0))) ∧ Aside0 (w'.heap[au]? = some (.cells #[.int .i64 ax, (.slice none 0 0)] 24 (0, 0))) ∧ Aside0 (w'.heap[al]? = some (.cells #[.int .i64 ai, u796001] 24 (0, 0))) ∧ Aside0 (Below w.heap.size w w'))
    case atStart => exact ⟨(bA), (0), (cK), (cL), (.slice ea cL.length eb), H', ⟨Nat.le_refl _⟩, ⟨by (with_reducible repeat (first | apply Kd.R_alloc | apply Kd.R_drewN | apply Kd.R_drew)); exact Kd.R_mono (Kd.R_far (p := ⟨al, 1, none⟩) (Kd.R_far (p := ⟨al, 0, none⟩) (Kd.R_types aw.out ag.out (by decide)) (fun _ hk => hk.2) (.int .i64 cK)) (fun _ hk => hk.2) (.slice ea cL.length eb)) (fun _ hk => trivial)⟩, ⟨by (with_reducible repeat (first | apply Kd.S_alloc | apply Kd.S_drewN | apply Kd.S_drew)); exact Kd.S_mono (Kd.S_far (p := ⟨al, 1, none⟩) (Kd.S_far (p := ⟨al, 0, none⟩) (Kd.S_types ad.out ag.out (by decide)) (fun _ hk => hk.2) (.int .i64 cK)) (fun _ hk => hk.2) (.slice ea cL.length eb)) (fun _ hk => hk.1.2)⟩, ⟨by (with_reducible repeat (first | apply Kd.S_alloc | apply Kd.S_drewN | apply Kd.S_drew)); exact Kd.S_mono (Kd.S_far (p := ⟨al, 1, none⟩) (Kd.S_far (p := ⟨al, 0, none⟩) (Kd.S_types cD.out ag.out (by decide)) (fun _ hk => hk.2) (.int .i64 cK)) (fun _ hk => hk.2) (.slice ea cL.length eb)) (fun _ hk => hk.1.2)⟩, ⟨by (with_reducible repeat (first | refine zN ?_ _ | refine zD ?_ | refine zA ?_ _)); refine blk_far ?_ a6.out _; (with_reducible repeat (first | refine zN ?_ _ | refine zD ?_ | refine zA ?_ _)); refine blk_far ?_ a6.out _; (with_reducible repeat (first | refine zN ?_ _ | refine zD ?_ | refine zA ?_ _)); exact af.out⟩, ⟨by (with_reducible repeat (first | refine zN ?_ _ | refine zD ?_ | refine zA ?_ _)); refine blk_far ?_ a7.out _; (with_reducible repeat (first | refine zN ?_ _ | refine zD ?_ | refine zA ?_ _)); refine blk_far ?_ a7.out _; (with_reducible repeat (first | refine zN ?_ _ | refine zD ?_ | refine zA ?_ _)); exact ah.out⟩, ⟨by (with_reducible repeat (first | refine zN ?_ _ | refine zD ?_ | refine zA ?_ _)); refine blk_put (cs := #[.int .i64 cK, .slice none 0 0]) ?_ 1 _ rfl; (with_reducible repeat (first | refine zN ?_ _ | refine zD ?_ | refine zA ?_ _)); refine blk_put (cs := #[.int .i64 0, .slice none 0 0]) ?_ 0 _ rfl; (with_reducible repeat (first | refine zN ?_ _ | refine zD ?_ | refine zA ?_ _)); exact ag.out⟩, ⟨zb HB⟩⟩
    case round =>
     clear H'
     try clear c1
     try clear c2
     try clear p2
     try clear c3
     try clear c6
     try clear c7
     try clear c8
     try clear c15
     try clear eV
     try clear c19
     try clear c22
     try clear e2
     try clear c26
     try clear c30
     try clear c34
     try clear c35
     try clear cS
     try clear cT
     try clear cW
     try clear cX
     try clear da
     try clear db
     try clear de
     try clear df
     try clear dU
     try clear dV
     try clear dY
     try clear dZ
     try clear d2
     try clear d3
     try clear d6
     try clear d7
     try clear du
     try clear dv
     try clear cU
     try clear cV
     try clear cY
     try clear cZ
     try clear dc
     try clear dd
     try clear dg
     try clear dh
     try clear dW
     try clear dX
     try clear d0
     try clear d1
     try clear d4
     try clear d5
     try clear d8
     try clear d9
     try clear dw
     try clear dx
     try clear p2
     obtain ⟨bV, ax, ai, aa, u796001, HA, HK2, aw, ad, ab, af, ah, ag, HB⟩ := hrel
     cases gk with
     | zero => exact absurd HA.out (by simp [spec_TakeBag.l0])
     | succ k2 =>
      have H := HA.out; clear HA
      simp only [spec_TakeBag.l0] at H
      by_cases c38 : 0 ≤ ac
      ·rw [if_pos c38] at H
       have c38b0 : decide (0 ≤ ac) = true := decide_eq_true c38
       clear c38
       by_cases c39 : ac < (aa.length : Int)
       ·rw [if_pos c39] at H
        have c39b0 : decide (ac < (aa.length : Int)) = true := decide_eq_true c39
        clear c39
        obtain ⟨ak, cg⟩ : ∃ j_ : Int, (wrap64 (((rd_L2 aa ac).length : Int) - 1)) = j_ := ⟨_, rfl⟩
        replace H : (if 0 ≤ (ak) then (if (ak) < ((rd_L2 aa ac).length : Int) then (if ((rd_T30 (rd_L2 aa ac) (ak)).f0) = a1 then (if (ak) ≤ ((rd_L2 aa ac).length : Int) then (some (ai, (aa.set (ac : Int).toNat ((rd_L2 aa ac).take ((ak) : Int).toNat)), bV, true)) else (none)) else ((spec_LaneFor.f k2 ai aa ((rd_T30 (rd_L2 aa ac) (ak)).f1) ac).bind fun bB => (if bB < 0 then (some (av, aq, (([] : List (S78))), false)) else ((spec_l06Hop.f k2 ai aa ac bB).bind fun bt814 => (if bV.length < 5864062014805 then (spec_TakeBag.l0 k2 a1 (bV ++ [(⟨(rd_T30 (rd_L2 aa ac) (ak)).f0, ac, bB⟩ : S78)]) ac av aq bt814.1 bt814.2) else (none)))))) else (none)) else (none)) = some (r1, r2, r3, r4) := by first | (rw [cg] at H; exact H) | (simp only [cg] at H ⊢; exact H)
        have hji40w : (IntKind.i64.wrap (((rd_L2 aa ac).length : Int) - 1)) = ak := (i64_w _).trans cg
        by_cases c41 : 0 ≤ (ak)
        ·rw [if_pos c41] at H
         have c41b0 : decide (0 ≤ (ak)) = true := decide_eq_true c41
         clear c41
         by_cases c42 : (ak) < ((rd_L2 aa ac).length : Int)
         ·rw [if_pos c42] at H
          have c42b0 : decide ((ak) < ((rd_L2 aa ac).length : Int)) = true := decide_eq_true c42
          clear c42
          by_cases eA : ((rd_T30 (rd_L2 aa ac) (ak)).f0) = a1
          ·rw [if_pos eA] at H
           have e4 : (((rd_T30 (rd_L2 aa ac) (ak)).f0) == a1) = true := beq_iff_eq.mpr eA
           have e5 : (((rd_T30 (rd_L2 aa ac) (ak)).f0) != a1) = false := bne_eq_false_iff_eq.mpr eA
           clear eA
           have c44b0 := eq_true (of_decide_eq_true (by first | (with_reducible assumption) | assumption) : 0 ≤ (ak))
           by_cases e6 : (ak) ≤ ((rd_L2 aa ac).length : Int)
           ·rw [if_pos e6] at H
            have c45b0 := eq_true e6
            have c45b1 : decide ((ak) ≤ ((rd_L2 aa ac).length : Int)) = true := decide_eq_true e6
            clear e6
            obtain ⟨bE, cE⟩ : ∃ y_ : List (S30), y_ = ((rd_L2 aa ac).take ((ak) : Int).toNat) := ⟨_, rfl⟩
            replace H : (some (ai, (aa.set (ac : Int).toNat bE), bV, true)) = some (r1, r2, r3, r4) := by first | (rw [cE]; with_reducible exact H) | (have H2_ := (Option.bind_some _ _).symm.trans H; rw [cE]; with_reducible exact H2_) | (have H2_ := (Option.bind_some _ _).symm.trans H; with_reducible exact H2_) | with_reducible exact H | (rw [cE]; exact H) | exact H
            have Ny801 := zK cE; clear cE
            obtain ⟨e7, cF⟩ : ∃ y_ : List (List (S30)), y_ = (aa.set (ac : Int).toNat bE) := ⟨_, rfl⟩
            replace H : (some (ai, e7, bV, true)) = some (r1, r2, r3, r4) := by first | (rw [cF]; with_reducible exact H) | (have H2_ := (Option.bind_some _ _).symm.trans H; rw [cF]; with_reducible exact H2_) | (have H2_ := (Option.bind_some _ _).symm.trans H; with_reducible exact H2_) | with_reducible exact H | (rw [cF]; exact H) | exact H
            have Ny805 := zK cF; clear cF
            simp only [Option.some.injEq, Prod.mk.injEq] at H
            obtain ⟨rfl, rfl, rfl, rfl⟩ := H
            try go_wp2
            have aV := zK (Kd.R_drew aw.out)
            have aW := zK (Kd.S_drew ad.out)
            have aX := zK (Kd.S_drew ab.out)
            have aY := zK (zD af.out)
            have a5 := zK (zD ah.out)
            have bj := zK (zD ag.out)
            have bm := zK (zE HB.out)
            clear aw ad ab af ah ag HB; have aw := aV; have ad := aW; have ab := aX; have af := aY; have ah := a5; have ag := bj; have HB := bm; clear aV aW aX aY a5 bj bm
            obtain ⟨Ao48, ct, e8⟩ := Kd.S_slice ab.out
            (first | subst e8 | (injection e8 with f1_ f2_ f3_; have f4_ := f1_.symm; have f5_ := f3_.symm; clear f1_ f2_ f3_; subst f4_; subst f5_))
            have b0 : 0 ≤ (ac : Int) := of_decide_eq_true (by first | (with_reducible assumption) | assumption)
            have b1 : ac < (aa.length : Int) := of_decide_eq_true (by first | (with_reducible assumption) | assumption)
            obtain ⟨aC, dy, bH, dz, aI, bq, br⟩ := at_L2 (Kd.S_reads' ab.out).2.2 ac b0 b1
            cases dz
            obtain ⟨es, ch, ci, bI⟩ := Kd.S_get ab.out [] ac b0 (by first | exact b1 | exact of_decide_eq_true (by first | (with_reducible assumption) | assumption) | (have e_ := (Kd.S_reads' ab.out).1; omega))
            obtain ⟨di, rfl, a9⟩ := ci
            have aN := bI 0 _ rfl
            rw [Nat.add_zero, show ((Kd.slice 30 k30)).sz = 1 from rfl, Nat.mul_one] at aN
            replace aN := Option.some.inj (aN.symm.trans aI)
            rw [aN] at a9
            have an := zK (show Kd.R k30 30 _ _ _ _ (rd_L2 aa ac) from a9)
            clear aN a9; have b2 := zK aI; clear bI ch; have am := zK br; have dj := zK bq; clear br bq; replace b0 := eq_true b0; replace b1 := eq_true b1
            have b3 : 0 ≤ (ac : Int) := of_decide_eq_true (by first | (with_reducible assumption) | assumption)
            have b4 : ac < (aa.length : Int) := of_decide_eq_true (by first | (with_reducible assumption) | assumption)
            obtain ⟨cG, dA, dB, dC, aJ, bs, bu⟩ := at_L2 (Kd.S_reads' ab.out).2.2 ac b3 b4
            obtain rfl : aC = cG := (by injection dC)
            obtain ⟨et, cj, ck, bJ⟩ := Kd.S_get ab.out [] ac b3 (by first | exact b4 | exact of_decide_eq_true (by first | (with_reducible assumption) | assumption) | (have e_ := (Kd.S_reads' ab.out).1; omega))
            obtain ⟨dk, rfl, ba⟩ := ck
            have aQ := bJ 0 _ rfl
            rw [Nat.add_zero, show ((Kd.slice 30 k30)).sz = 1 from rfl, Nat.mul_one] at aQ
            replace aQ := Option.some.inj (aQ.symm.trans aJ)
            rw [aQ] at ba
            have ao := zK (show Kd.R k30 30 _ _ _ _ (rd_L2 aa ac) from ba)
            clear aQ ba; have b5 := zK aJ; clear bJ cj; have ap := zK bu; have dl := zK bs; clear bu bs; replace b3 := eq_true b3; replace b4 := eq_true b4
            have ea_ := Option.some.inj (aI.symm.trans aJ)
            injection ea_ with ea_ en_ ec_
            subst ea_; subst ec_; clear en_
            have cl : 0 ≤ ((ak) : Int) := of_decide_eq_true (by first | (with_reducible assumption) | assumption)
            have cm : (ak) < ((rd_L2 aa ac).length : Int) := of_decide_eq_true (by first | (with_reducible assumption) | assumption)
            obtain ⟨bi, dD, bv, bw⟩ := at_T30 (by repeat (first | (with_reducible exact am.out) | (with_reducible refine Kd.C_alloc ?_ _) | (with_reducible refine Kd.C_drewN ?_ _) | (with_reducible refine Kd.C_drew ?_) | exact am.out)) (ak) cl cm
            cases dD
            replace cl := eq_true cl; replace cm := eq_true cm
            refine start_ (n := 17) (S := fun w' => w'.cell? ⟨al, 0, none⟩ = some (.int .i64 ai) ∧ w'.cell? ⟨al, 1, none⟩ = some (.slice (some aC) aa.length ct) ∧ w'.cell? (aC.add (ac).toNat) = some (.slice (some bi) (rd_L2 aa ac).length bH) ∧ w'.cell? (aC.add (ac).toNat) = some (.slice (some bi) (rd_L2 aa ac).length bH) ∧ w'.cell? (bi.add (((ak)).toNat * 2)) = some (.int .i64 ((rd_T30 (rd_L2 aa ac) (ak)).f0)) ∧ w'.cell? ⟨(bi.add (((ak)).toNat * 2)).block, (bi.add (((ak)).toNat * 2)).off + 1, none⟩ = some (.int .i64 ((rd_T30 (rd_L2 aa ac) (ak)).f1))) (ds := []) #[ff, ff, ff, ff, ff, ff, ff, ff, ff, ff, ff, ff, ff, ff, ff, ff, ff] (by kernel_rfl) rfl rfl ⟨(blk_cell ag.out 0).trans rfl, (blk_cell ag.out 1).trans rfl, aI, aJ, bv, bw⟩ (fun hHeld => ?_); refine with_tabW spec_TakeBag.tab7 spec_TakeBag.bits7 (fun HT_ HW_ => ?_)
            generalize wr.drew = w47 at aw ad ab af ah ag HB an ao am ap b2 b5 aI aJ bv bw hHeld ⊢
            refine zu 0 (some 29) #[tt, ff, ff, ff, ff, ff, ff, ff, ff, ff, ff, ff, ff, ff, ff, ff, ff] (any_of HT_.out (by kernel_rfl)) ?_
            refine zu 2 (some 31) #[tt, ff, tt, ff, ff, ff, ff, ff, ff, ff, ff, ff, ff, ff, ff, ff, ff] (any_of HT_.out (by kernel_rfl)) ?_
            refine zu 5 (some 34) #[tt, ff, tt, ff, ff, tt, ff, ff, ff, ff, ff, ff, ff, ff, ff, ff, ff] (any_of HT_.out (by kernel_rfl)) ?_
            refine zu 7 (some 36) #[tt, ff, tt, ff, ff, tt, ff, tt, ff, ff, ff, ff, ff, ff, ff, ff, ff] (any_of HT_.out (by kernel_rfl)) ?_
            refine zu 15 (some 44) #[tt, ff, tt, ff, ff, tt, ff, tt, ff, ff, ff, ff, ff, ff, ff, tt, ff] (any_of HT_.out (by kernel_rfl)) ?_
            refine zt 1 (some 30) #[tt, tt, tt, ff, ff, tt, ff, tt, ff, ff, ff, ff, ff, ff, ff, tt, ff] (take_ofW HT_.out HW_.out (by kernel_rfl)) hHeld ?_
            refine zu 3 (some 32) #[tt, tt, tt, tt, ff, tt, ff, tt, ff, ff, ff, ff, ff, ff, ff, tt, ff] (any_of HT_.out (by kernel_rfl)) ?_
            refine zt 4 (some 33) #[tt, tt, tt, tt, tt, tt, ff, tt, ff, ff, ff, ff, ff, ff, ff, tt, ff] (take_ofW HT_.out HW_.out (by kernel_rfl)) hHeld ?_
            refine zt 6 (some 35) #[tt, tt, tt, tt, tt, tt, tt, tt, ff, ff, ff, ff, ff, ff, ff, tt, ff] (take_ofW HT_.out HW_.out (by kernel_rfl)) hHeld ?_
            refine zu 8 (some 37) #[tt, tt, tt, tt, tt, tt, tt, tt, tt, ff, ff, ff, ff, ff, ff, tt, ff] (any_of HT_.out (by kernel_rfl)) ?_
            refine zt 9 (some 38) #[tt, tt, tt, tt, tt, tt, tt, tt, tt, tt, ff, ff, ff, ff, ff, tt, ff] (take_ofW HT_.out HW_.out (by kernel_rfl)) hHeld ?_
            refine zu 10 (some 39) #[tt, tt, tt, tt, tt, tt, tt, tt, tt, tt, tt, ff, ff, ff, ff, tt, ff] (any_of HT_.out (by kernel_rfl)) ?_
            refine zu 11 (some 40) #[tt, tt, tt, tt, tt, tt, tt, tt, tt, tt, tt, tt, ff, ff, ff, tt, ff] (any_of HT_.out (by kernel_rfl)) ?_
            refine zu 12 (some 41) #[tt, tt, tt, tt, tt, tt, tt, tt, tt, tt, tt, tt, tt, ff, ff, tt, ff] (any_of HT_.out (by kernel_rfl)) ?_
            refine zu 13 (some 42) #[tt, tt, tt, tt, tt, tt, tt, tt, tt, tt, tt, tt, tt, tt, ff, tt, ff] (any_of HT_.out (by kernel_rfl)) ?_
            refine zt 14 (some 43) #[tt, tt, tt, tt, tt, tt, tt, tt, tt, tt, tt, tt, tt, tt, tt, tt, ff] (take_ofW HT_.out HW_.out (by kernel_rfl)) hHeld ?_
            refine zu 16 (some 45) #[tt, tt, tt, tt, tt, tt, tt, tt, tt, tt, tt, tt, tt, tt, tt, tt, tt] (any_of HT_.out (by kernel_rfl)) ?_
            refine done_ (done_of HT_.out (by kernel_rfl)) ?_
            try go_wp2
            have aV := zK (Kd.R_drew aw.out)
            have aW := zK (Kd.S_drew ad.out)
            have aX := zK (Kd.S_drew ab.out)
            have aY := zK (Kd.R_drew an.out)
            have a5 := zK (Kd.R_drew ao.out)
            have bj := zK (zD af.out)
            have bm := zK (zD ah.out)
            have bW := zK (zD ag.out)
            have bX := zK (Kd.C_drew am.out)
            have bY := zK (Kd.C_drew ap.out)
            have a4 := zK (zE HB.out)
            clear aw ad ab an ao af ah ag am ap HB; have aw := aV; have ad := aW; have ab := aX; have an := aY; have ao := a5; have af := bj; have ah := bm; have ag := bW; have am := bX; have ap := bY; have HB := a4; clear aV aW aX aY a5 bj bm bW bX bY a4
            have ec : 0 ≤ (ac : Int) := of_decide_eq_true (by first | (with_reducible assumption) | assumption)
            have ed : ac < (aa.length : Int) := of_decide_eq_true (by first | (with_reducible assumption) | assumption)
            obtain ⟨e9, a2, aU, e799, bT, dm, dn⟩ := at_L2 (Kd.S_reads' ab.out).2.2 ac ec ed
            obtain rfl : aC = e9 := (by injection e799)
            obtain ⟨ce799, eB, eC, dE⟩ := Kd.S_get ab.out [] ac ec (by first | exact ed | exact of_decide_eq_true (by first | (with_reducible assumption) | assumption) | (have e_ := (Kd.S_reads' ab.out).1; omega))
            obtain ⟨ve799_0, rfl, cv⟩ := eC
            have b6 := dE 0 _ rfl
            rw [Nat.add_zero, show ((Kd.slice 30 k30)).sz = 1 from rfl, Nat.mul_one] at b6
            replace b6 := Option.some.inj (b6.symm.trans bT)
            rw [b6] at cv
            have ee := zK (show Kd.R k30 30 _ _ _ _ (rd_L2 aa ac) from cv)
            clear b6 cv; have dp := zK bT; clear dE eB; have cw := zK dn; have ef := zK dm; clear dn dm; replace ec := eq_true ec; replace ed := eq_true ed
            have eg : 0 ≤ (ac : Int) := of_decide_eq_true (by first | (with_reducible assumption) | assumption)
            have eh : ac < (aa.length : Int) := of_decide_eq_true (by first | (with_reducible assumption) | assumption)
            obtain ⟨fa, A800_0, c800_0, e800, bU, dq, dr⟩ := at_L2 (Kd.S_reads' ab.out).2.2 ac eg eh
            obtain rfl : aC = fa := (by injection e800)
            obtain ⟨ce800, eD, eE, dF⟩ := Kd.S_get ab.out [] ac eg (by first | exact eh | exact of_decide_eq_true (by first | (with_reducible assumption) | assumption) | (have e_ := (Kd.S_reads' ab.out).1; omega))
            obtain ⟨ve800_0, rfl, cx⟩ := eE
            have b7 := dF 0 _ rfl
            rw [Nat.add_zero, show ((Kd.slice 30 k30)).sz = 1 from rfl, Nat.mul_one] at b7
            replace b7 := Option.some.inj (b7.symm.trans bU)
            rw [b7] at cx
            have ei := zK (show Kd.R k30 30 _ _ _ _ (rd_L2 aa ac) from cx)
            clear b7 cx; have ej := zK bU; clear dF eD; have ek := zK dr; have HC800_0 := zK dq; clear dr dq; replace eg := eq_true eg; replace eh := eq_true eh
            have ea_ := Option.some.inj (bT.symm.trans bU)
            injection ea_ with ea_ en_ ec_
            subst ea_; subst ec_; clear en_
            have q50 : ((ak) : Int) ≤ (((rd_L2 aa ac).length : Int) : Int) := of_decide_eq_true (by first | (with_reducible assumption) | assumption)
            obtain ⟨i050, eu, _, fb, _⟩ := info_parts info30
            have dt : (rd_L2 aa ac).length ≤ aU := ef.out
            have fc : Kd.C k30 _ a2 (rd_L2 aa ac).length (rd_L2 aa ac) := (by repeat (first | (with_reducible exact cw.out) | (with_reducible refine Kd.C_alloc ?_ _) | (with_reducible refine Kd.C_drewN ?_ _) | (with_reducible refine Kd.C_drew ?_) | exact cw.out))
            have eF := cut_to (P := Try.prog) 28 30 .i64 Try.underlying28 eu a2 (rd_L2 aa ac).length aU (ak) (of_decide_eq_true (by first | (with_reducible assumption) | assumption)) q50 dt
            have eG := Kd.C_take (m := ((ak) : Int).toNat) fc (by omega)
            have eH : bE.length = ((ak) : Int).toNat := (by rw [Ny801.out, List.length_take]; omega)
            rw [← Ny801.out] at eG
            rw [← eH] at eF
            have fd := zK eG
            have HC804 := zK (show bE.length ≤ aU from by omega)
            clear eG fc dt eu fb; have KY50 := zK eH; clear eH; replace q50 := eq_true q50
            have p46 : 0 ≤ (ac : Int) := of_decide_eq_true (by first | (with_reducible assumption) | assumption)
            have q46 : (ac : Int) < ((aa.length : Int) : Int) := of_decide_eq_true (by first | (with_reducible assumption) | assumption)
            obtain ⟨bp, co46, fe, fg, gl46, cl46, fh⟩ := Kd.S_form ab.out (by omega)
            (first | cases fe | (injection fe with ea_ en_ ec_; (first | subst ea_ | (injection ea_ with ea_; subst ea_)); subst ec_; clear en_))
            have GB46 := zK fg; have fi := zK fh; clear fg gl46 fh
            (first | simp only [add_plain] at aI | skip)
            (first | simp only [add_plain] at aJ | skip)
            (first | simp only [add_plain] at bT | skip)
            (first | simp only [add_plain] at bU | skip)
            obtain ⟨_, ce46, fj, fk, ew, ex, _, _⟩ := Kd.S_elem ab.out [] (ac : Int) p46 q46
            obtain ⟨ve46_0, rfl, ge46_0⟩ := fk
            have dG := ew 0 _ rfl; have dH := ex 0; (try simp only [show ((Kd.slice 30 k30)).sz = 1 from rfl, Nat.mul_one, Nat.add_zero] at dG); (try simp only [show ((Kd.slice 30 k30)).sz = 1 from rfl, Nat.mul_one, Nat.add_zero] at dH)
            clear fj ew ex; (try clear fk)
            replace p46 := eq_true p46; replace q46 := eq_true q46
            have HX51 := zK (show Kd.S (Kd.slice 30 k30) 28 _ w.heap.size (fun k_ => ((fun k_ => some k_ ≠ (.slice aK aq.length aM : Value).ownBlock)) k_ ∧ ¬ (fun _ => False) k_) (.slice (some ⟨bp, 0, none⟩) aa.length ct) aa from (by exact Kd.S_mono ab.out (fun k_ hk => ⟨hk, fun e_ => e_⟩)))
            obtain ⟨fl, ce51, fm, fn, ey, fo, hoki51, hH51⟩ := Kd.S_elem HX51.out [] (ac : Int) (of_decide_eq_true (by first | (with_reducible assumption) | assumption)) (by have h_ : (ac : Int) < ((aa.length : Int) : Int) := of_decide_eq_true (by first | (with_reducible assumption) | assumption); first | exact h_ | (have e_ := (Kd.S_reads' ab.out).1; omega) | simpa using h_)
            obtain ⟨ve51_0, rfl, eI⟩ := fn
            have dI := ey 0 _ rfl; have eJ := dp.out; (try simp only [add_plain] at eJ); (try simp only [Nat.add_zero] at dI); (try rw [show ((Kd.slice 30 k30)).sz = 1 from rfl, Nat.mul_one] at dI)
            replace dI := Option.some.inj (dI.symm.trans eJ)
            subst dI; clear eJ
            have eK := zK (show Kd.R k30 30 _ w.heap.size fl (.slice a2 bE.length aU) bE from by rw [KY50.out, Ny801.out]; exact Kd.R_take eI (by have h_ := of_eq_true q50; omega))
            have el := (Kd.S_seg hH51 (of_decide_eq_true (by first | (with_reducible assumption) | assumption)) (by have h_ : (ac : Int) < ((aa.length : Int) : Int) := of_decide_eq_true (by first | (with_reducible assumption) | assumption); first | exact h_ | (have e_ := (Kd.S_reads' ab.out).1; omega) | simpa using h_) (seg := [.slice a2 bE.length aU]) (j := 0) (show 1 ≤ 1 from by decide) (x' := bE) (Kd.M_row eK.out) (fun _ hk => Or.inl hk) (fun _ hk => hk.elim)).1
            (try simp only [show ((Kd.slice 30 k30)).sz = 1 from rfl, Nat.mul_one, Nat.add_zero] at el)
            rw [← Ny805.out] at el
            have fp := zK el
            clear fm ey fo el; (try clear fn)
            refine start_ (n := 18) (S := fun w' => w'.cell? ⟨al, 0, none⟩ = some (.int .i64 ai) ∧ w'.cell? ⟨al, 1, none⟩ = some (.slice (some ⟨bp, 0, none⟩) aa.length ct) ∧ w'.cell? ⟨bp, (ac).toNat, none⟩ = some (.slice a2 (rd_L2 aa ac).length aU) ∧ w'.cell? ⟨bp, (ac).toNat, none⟩ = some (.slice a2 (rd_L2 aa ac).length aU)) (ds := [17]) #[ff, ff, ff, ff, ff, ff, ff, ff, ff, ff, ff, ff, ff, ff, ff, ff, ff, ff] (by kernel_rfl) rfl rfl ⟨(blk_cell ag.out 0).trans rfl, (blk_cell ag.out 1).trans rfl, bT, bU⟩ (fun hHeld => ?_); refine with_tabW spec_TakeBag.tab14 spec_TakeBag.bits14 (fun HT_ HW_ => ?_)
            generalize w47.drew = ez at aw ad ab an ao af ah ag am ap HB fi ee ei fp cw ek fd dp ej dH dG aI aJ bT bU hHeld ⊢
            refine zu 0 (some 81) #[tt, ff, ff, ff, ff, ff, ff, ff, ff, ff, ff, ff, ff, ff, ff, ff, ff, ff] (any_of HT_.out (by kernel_rfl)) ?_
            refine zu 2 (some 83) #[tt, ff, tt, ff, ff, ff, ff, ff, ff, ff, ff, ff, ff, ff, ff, ff, ff, ff] (any_of HT_.out (by kernel_rfl)) ?_
            refine zu 3 (some 84) #[tt, ff, tt, tt, ff, ff, ff, ff, ff, ff, ff, ff, ff, ff, ff, ff, ff, ff] (any_of HT_.out (by kernel_rfl)) ?_
            refine zu 5 (some 86) #[tt, ff, tt, tt, ff, tt, ff, ff, ff, ff, ff, ff, ff, ff, ff, ff, ff, ff] (any_of HT_.out (by kernel_rfl)) ?_
            refine zu 8 (some 89) #[tt, ff, tt, tt, ff, tt, ff, ff, tt, ff, ff, ff, ff, ff, ff, ff, ff, ff] (any_of HT_.out (by kernel_rfl)) ?_
            refine zu 10 (some 91) #[tt, ff, tt, tt, ff, tt, ff, ff, tt, ff, tt, ff, ff, ff, ff, ff, ff, ff] (any_of HT_.out (by kernel_rfl)) ?_
            refine zt 1 (some 82) #[tt, tt, tt, tt, ff, tt, ff, ff, tt, ff, tt, ff, ff, ff, ff, ff, ff, ff] (take_ofW HT_.out HW_.out (by kernel_rfl)) hHeld ?_
            refine zt 4 (some 85) #[tt, tt, tt, tt, tt, tt, ff, ff, tt, ff, tt, ff, ff, ff, ff, ff, ff, ff] (take_ofW HT_.out HW_.out (by kernel_rfl)) hHeld ?_
            refine zu 6 (some 87) #[tt, tt, tt, tt, tt, tt, tt, ff, tt, ff, tt, ff, ff, ff, ff, ff, ff, ff] (any_of HT_.out (by kernel_rfl)) ?_
            refine zt 7 (some 88) #[tt, tt, tt, tt, tt, tt, tt, tt, tt, ff, tt, ff, ff, ff, ff, ff, ff, ff] (take_ofW HT_.out HW_.out (by kernel_rfl)) hHeld ?_
            refine zt 9 (some 90) #[tt, tt, tt, tt, tt, tt, tt, tt, tt, tt, tt, ff, ff, ff, ff, ff, ff, ff] (take_ofW HT_.out HW_.out (by kernel_rfl)) hHeld ?_
            refine zu 11 (some 92) #[tt, tt, tt, tt, tt, tt, tt, tt, tt, tt, tt, tt, ff, ff, ff, ff, ff, ff] (any_of HT_.out (by kernel_rfl)) ?_
            refine zt 12 (some 93) #[tt, tt, tt, tt, tt, tt, tt, tt, tt, tt, tt, tt, tt, ff, ff, ff, ff, ff] (take_ofW HT_.out HW_.out (by kernel_rfl)) hHeld ?_
            refine zu 13 (some 94) #[tt, tt, tt, tt, tt, tt, tt, tt, tt, tt, tt, tt, tt, tt, ff, ff, ff, ff] (any_of HT_.out (by kernel_rfl)) ?_
            refine zu 14 (some 95) #[tt, tt, tt, tt, tt, tt, tt, tt, tt, tt, tt, tt, tt, tt, tt, ff, ff, ff] (any_of HT_.out (by kernel_rfl)) ?_
            refine zu 15 (some 96) #[tt, tt, tt, tt, tt, tt, tt, tt, tt, tt, tt, tt, tt, tt, tt, tt, ff, ff] (any_of HT_.out (by kernel_rfl)) ?_
            refine zu 16 (some 97) #[tt, tt, tt, tt, tt, tt, tt, tt, tt, tt, tt, tt, tt, tt, tt, tt, tt, ff] (any_of HT_.out (by kernel_rfl)) ?_
            refine last_ (i := 17) (N := none) #[tt, tt, tt, tt, tt, tt, tt, tt, tt, tt, tt, tt, tt, tt, tt, tt, tt, tt] rfl rfl (one_of HT_.out (by kernel_rfl)) (by decide) (fun K hK => ?_)
            refine skip_ (w1 := ?_) (by rfl) rfl ?_ ?_
            rotate_left
            ·go_simp
             rfl
            refine hK.out _ _ ?_
            clear hK K
            refine done_ (done_of HT_.out (by kernel_rfl)) ?_
            have aV : Aside0 (Kd.R k78 78 (ez.setCell ⟨bp, (ac : Int).toNat, none⟩ (.slice a2 bE.length aU)) w.heap.size (fun _ => True) u7 bV) := ⟨by (with_reducible repeat (first | apply Kd.R_alloc | apply Kd.R_drewN | apply Kd.R_drew)); exact Kd.R_mono (Kd.R_far (p := ⟨bp, (ac : Int).toNat, none⟩) (Kd.R_types aw.out fi.out (by decide)) (fun _ hk => hk.2) (.slice a2 bE.length aU)) (fun _ hk => trivial)⟩
            have aW : Aside0 (Kd.S (Kd.slice 30 k30) 28 (ez.setCell ⟨bp, (ac : Int).toNat, none⟩ (.slice a2 bE.length aU)) w.heap.size (fun k_ => some k_ ≠ (.slice (some ⟨bp, 0, none⟩) aa.length ct : Value).ownBlock) (.slice aK aq.length aM) aq) := ⟨by (with_reducible repeat (first | apply Kd.S_alloc | apply Kd.S_drewN | apply Kd.S_drew)); exact Kd.S_mono (Kd.S_far (p := ⟨bp, (ac : Int).toNat, none⟩) (Kd.S_mono ad.out (fun k_ hk => (⟨hk, fun e_ => hk (by rw [e_]; rfl)⟩ : _ ∧ k_ ≠ bp))) (fun _ hk => hk.2) (.slice a2 bE.length aU)) (fun _ hk => hk.1)⟩
            have aX : Aside0 (Kd.S (Kd.slice 30 k30) 28 (ez.setCell ⟨bp, (ac : Int).toNat, none⟩ (.slice a2 bE.length aU)) w.heap.size (fun k_ => some k_ ≠ (.slice aK aq.length aM : Value).ownBlock) (.slice (some ⟨bp, 0, none⟩) aa.length ct) e7) := ⟨zT fp⟩
            have aY : Aside0 ((ez.setCell ⟨bp, (ac : Int).toNat, none⟩ (.slice a2 bE.length aU)).heap[ar]? = some (.cells #[.int .i64 av, .slice aK aq.length aM] 24 (0, 0))) := ⟨by (with_reducible repeat (first | refine zN ?_ _ | refine zD ?_ | refine zA ?_ _)); refine blk_far ?_ (by have h_ := Kd.S_ne ab.out af.out (by decide); intro e_; exact h_ (by rw [e_]; rfl)) _; (with_reducible repeat (first | refine zN ?_ _ | refine zD ?_ | refine zA ?_ _)); exact af.out⟩
            have a5 : Aside0 ((ez.setCell ⟨bp, (ac : Int).toNat, none⟩ (.slice a2 bE.length aU)).heap[au]? = some (.cells #[.int .i64 ax, .slice none 0 0] 24 (0, 0))) := ⟨by (with_reducible repeat (first | refine zN ?_ _ | refine zD ?_ | refine zA ?_ _)); refine blk_far ?_ (by have h_ := Kd.S_ne ab.out ah.out (by decide); intro e_; exact h_ (by rw [e_]; rfl)) _; (with_reducible repeat (first | refine zN ?_ _ | refine zD ?_ | refine zA ?_ _)); exact ah.out⟩
            have bj : Aside0 ((ez.setCell ⟨bp, (ac : Int).toNat, none⟩ (.slice a2 bE.length aU)).heap[al]? = some (.cells #[.int .i64 ai, .slice (some ⟨bp, 0, none⟩) aa.length ct] 24 (0, 0))) := ⟨by (with_reducible repeat (first | refine zN ?_ _ | refine zD ?_ | refine zA ?_ _)); refine blk_far ?_ (by have h_ := Kd.S_ne ab.out ag.out (by decide); intro e_; exact h_ (by rw [e_]; rfl)) _; (with_reducible repeat (first | refine zN ?_ _ | refine zD ?_ | refine zA ?_ _)); exact ag.out⟩
            have bm : Aside0 (Below w.heap.size w (ez.setCell ⟨bp, (ac : Int).toNat, none⟩ (.slice a2 bE.length aU))) := ⟨zb HB⟩
            (try clear aw); (try clear ad); (try clear ab); (try clear af); (try clear ah); (try clear ag); (try clear HB)
            generalize (ez.setCell ⟨bp, (ac : Int).toNat, none⟩ (.slice a2 bE.length aU)) = w52 at aV aW aX aY a5 bj bm ⊢
            have aw := aV; have ad := aW; have ab := aX; have af := aY; have ah := a5; have ag := bj; have HB := bm; clear aV aW aX aY a5 bj bm; have hnb53 := bR.out; have hnc53 := a6.out; have hnb54 := bS.out; have hnc54 := a7.out
            have hcz55_0 : w52.cell? ⟨al, 0, none⟩ = some (.int .i64 ai) := (blk_cell ag.out 0).trans rfl
            have hcz55_1 : w52.cell? ⟨al, 1, none⟩ = some (.slice (some ⟨bp, 0, none⟩) aa.length ct) := (blk_cell ag.out 1).trans rfl
            have hfz55_0 := blk_frozen ag.out 0; have hfz55_1 := blk_frozen ag.out 1; have hnb56 := aZ.out; have hnc56 := bf.out
            have hcz57_0 : w52.cell? ⟨au, 0, none⟩ = some (.int .i64 ax) := (blk_cell ah.out 0).trans rfl
            have hcz57_1 : w52.cell? ⟨au, 1, none⟩ = some (.slice none 0 0) := (blk_cell ah.out 1).trans rfl
            have hfz57_0 := blk_frozen ah.out 0; have hfz57_1 := blk_frozen ah.out 1
            try go_wp2
            refine bodyPost_ret (results_ctt rfl _ _ au 24 #[.int .i64 ai, .slice (some ⟨bp, 0, none⟩) aa.length ct] (0, 0) _ rfl (by (with_reducible repeat (first | refine zN ?_ _ | refine zD ?_ | refine zA ?_ _)); refine blk_put (cs := #[.int .i64 ai, .slice none 0 0]) ?_ 1 _ rfl; (with_reducible repeat (first | refine zN ?_ _ | refine zD ?_ | refine zA ?_ _)); refine blk_put (cs := #[.int .i64 ax, .slice none 0 0]) ?_ 0 _ rfl; (with_reducible repeat (first | refine zN ?_ _ | refine zD ?_ | refine zA ?_ _)); exact ah.out) Try.underlying24 rfl (by kernel_rfl)) rfl ?_
            exact ⟨_, _, by first | rfl | (simp [errW_none, errW_some] <;> rfl) | (simp only [← cg]; first | rfl | (simp [errW_none, errW_some] <;> rfl)) | (simp [*, errW_none, errW_some] <;> rfl), by (with_reducible repeat (first | apply Kd.S_alloc | apply Kd.S_drewN | apply Kd.S_drew)); exact Kd.S_mono (Kd.S_far (p := ⟨au, 1, none⟩) (Kd.S_far (p := ⟨au, 0, none⟩) (Kd.S_types ab.out ah.out (by decide)) (fun _ hk => hk.2) (.int .i64 ai)) (fun _ hk => hk.2) (.slice (some ⟨bp, 0, none⟩) aa.length ct)) (fun _ hk => trivial), by (with_reducible repeat (first | apply Kd.R_alloc | apply Kd.R_drewN | apply Kd.R_drew)); exact Kd.R_mono (Kd.R_far (p := ⟨au, 1, none⟩) (Kd.R_far (p := ⟨au, 0, none⟩) (Kd.R_types aw.out ah.out (by decide)) (fun _ hk => hk.2) (.int .i64 ai)) (fun _ hk => hk.2) (.slice (some ⟨bp, 0, none⟩) aa.length ct)) (fun _ hk => trivial), by repeat (first | (with_reducible first | exact HB.out | apply zB | apply zC | apply zE | refine zS ?_ aG.out | refine zS ?_ aH.out | refine zS ?_ a8.out) | exact HB.out)⟩
           ·rw [if_neg e6] at H
            exact absurd H (by simp)
          ·rw [if_neg eA] at H
           have e4 : (((rd_T30 (rd_L2 aa ac) (ak)).f0) == a1) = false := beq_eq_false_iff_ne.mpr eA
           have e5 : (((rd_T30 (rd_L2 aa ac) (ak)).f0) != a1) = true := bne_iff_ne.mpr eA
           replace H := Option.bind_eq_some_iff.mp H
           obtain ⟨bB, fq, H⟩ := H
           replace H : (if bB < 0 then (some (av, aq, (([] : List (S78))), false)) else ((spec_l06Hop.f k2 ai aa ac bB).bind fun bt814 => (if bV.length < 5864062014805 then (spec_TakeBag.l0 k2 a1 (bV ++ [(⟨(rd_T30 (rd_L2 aa ac) (ak)).f0, ac, bB⟩ : S78)]) ac av aq bt814.1 bt814.2) else (none)))) = some (r1, r2, r3, r4) := H
           have A58 := zK fq; clear fq
           by_cases eW : bB < 0
           ·rw [if_pos eW] at H
            have fr : decide (bB < 0) = true := decide_eq_true eW
            clear eW
            obtain ⟨y811, cH⟩ : ∃ y_ : List (S78), y_ = (([] : List (S78))) := ⟨_, rfl⟩
            replace H : (some (av, aq, y811, false)) = some (r1, r2, r3, r4) := by first | (rw [cH]; with_reducible exact H) | (have H2_ := (Option.bind_some _ _).symm.trans H; rw [cH]; with_reducible exact H2_) | (have H2_ := (Option.bind_some _ _).symm.trans H; with_reducible exact H2_) | with_reducible exact H | (rw [cH]; exact H) | exact H
            have Ny811 := zK cH; clear cH
            simp only [Option.some.injEq, Prod.mk.injEq] at H
            obtain ⟨rfl, rfl, rfl, rfl⟩ := H
            try go_wp2
            have aV := zK (Kd.R_drew aw.out)
            have aW := zK (Kd.S_drew ad.out)
            have aX := zK (Kd.S_drew ab.out)
            have aY := zK (zD af.out)
            have a5 := zK (zD ah.out)
            have bj := zK (zD ag.out)
            have bm := zK (zE HB.out)
            clear aw ad ab af ah ag HB; have aw := aV; have ad := aW; have ab := aX; have af := aY; have ah := a5; have ag := bj; have HB := bm; clear aV aW aX aY a5 bj bm
            obtain ⟨Ao61, cu, fs⟩ := Kd.S_slice ab.out
            (first | subst fs | (injection fs with f1_ f2_ f3_; have f4_ := f1_.symm; have f5_ := f3_.symm; clear f1_ f2_ f3_; subst f4_; subst f5_))
            have b0 : 0 ≤ (ac : Int) := of_decide_eq_true (by first | (with_reducible assumption) | assumption)
            have b1 : ac < (aa.length : Int) := of_decide_eq_true (by first | (with_reducible assumption) | assumption)
            obtain ⟨aC, dy, bH, dz, aI, bq, br⟩ := at_L2 (Kd.S_reads' ab.out).2.2 ac b0 b1
            cases dz
            obtain ⟨es, ch, ci, bI⟩ := Kd.S_get ab.out [] ac b0 (by first | exact b1 | exact of_decide_eq_true (by first | (with_reducible assumption) | assumption) | (have e_ := (Kd.S_reads' ab.out).1; omega))
            obtain ⟨di, rfl, a9⟩ := ci
            have aN := bI 0 _ rfl
            rw [Nat.add_zero, show ((Kd.slice 30 k30)).sz = 1 from rfl, Nat.mul_one] at aN
            replace aN := Option.some.inj (aN.symm.trans aI)
            rw [aN] at a9
            have an := zK (show Kd.R k30 30 _ _ _ _ (rd_L2 aa ac) from a9)
            clear aN a9; have b2 := zK aI; clear bI ch; have am := zK br; have dj := zK bq; clear br bq; replace b0 := eq_true b0; replace b1 := eq_true b1
            have b3 : 0 ≤ (ac : Int) := of_decide_eq_true (by first | (with_reducible assumption) | assumption)
            have b4 : ac < (aa.length : Int) := of_decide_eq_true (by first | (with_reducible assumption) | assumption)
            obtain ⟨cG, dA, dB, dC, aJ, bs, bu⟩ := at_L2 (Kd.S_reads' ab.out).2.2 ac b3 b4
            obtain rfl : aC = cG := (by injection dC)
            obtain ⟨et, cj, ck, bJ⟩ := Kd.S_get ab.out [] ac b3 (by first | exact b4 | exact of_decide_eq_true (by first | (with_reducible assumption) | assumption) | (have e_ := (Kd.S_reads' ab.out).1; omega))
            obtain ⟨dk, rfl, ba⟩ := ck
            have aQ := bJ 0 _ rfl
            rw [Nat.add_zero, show ((Kd.slice 30 k30)).sz = 1 from rfl, Nat.mul_one] at aQ
            replace aQ := Option.some.inj (aQ.symm.trans aJ)
            rw [aQ] at ba
            have ao := zK (show Kd.R k30 30 _ _ _ _ (rd_L2 aa ac) from ba)
            clear aQ ba; have b5 := zK aJ; clear bJ cj; have ap := zK bu; have dl := zK bs; clear bu bs; replace b3 := eq_true b3; replace b4 := eq_true b4
            have ea_ := Option.some.inj (aI.symm.trans aJ)
            injection ea_ with ea_ en_ ec_
            subst ea_; subst ec_; clear en_
            have cl : 0 ≤ ((ak) : Int) := of_decide_eq_true (by first | (with_reducible assumption) | assumption)
            have cm : (ak) < ((rd_L2 aa ac).length : Int) := of_decide_eq_true (by first | (with_reducible assumption) | assumption)
            obtain ⟨bi, dD, bv, bw⟩ := at_T30 (by repeat (first | (with_reducible exact am.out) | (with_reducible refine Kd.C_alloc ?_ _) | (with_reducible refine Kd.C_drewN ?_ _) | (with_reducible refine Kd.C_drew ?_) | exact am.out)) (ak) cl cm
            cases dD
            replace cl := eq_true cl; replace cm := eq_true cm
            refine start_ (n := 17) (S := fun w' => w'.cell? ⟨al, 0, none⟩ = some (.int .i64 ai) ∧ w'.cell? ⟨al, 1, none⟩ = some (.slice (some aC) aa.length cu) ∧ w'.cell? (aC.add (ac).toNat) = some (.slice (some bi) (rd_L2 aa ac).length bH) ∧ w'.cell? (aC.add (ac).toNat) = some (.slice (some bi) (rd_L2 aa ac).length bH) ∧ w'.cell? (bi.add (((ak)).toNat * 2)) = some (.int .i64 ((rd_T30 (rd_L2 aa ac) (ak)).f0)) ∧ w'.cell? ⟨(bi.add (((ak)).toNat * 2)).block, (bi.add (((ak)).toNat * 2)).off + 1, none⟩ = some (.int .i64 ((rd_T30 (rd_L2 aa ac) (ak)).f1))) (ds := []) #[ff, ff, ff, ff, ff, ff, ff, ff, ff, ff, ff, ff, ff, ff, ff, ff, ff] (by kernel_rfl) rfl rfl ⟨(blk_cell ag.out 0).trans rfl, (blk_cell ag.out 1).trans rfl, aI, aJ, bv, bw⟩ (fun hHeld => ?_); refine with_tabW spec_TakeBag.tab7 spec_TakeBag.bits7 (fun HT_ HW_ => ?_)
            generalize wr.drew = w60 at aw ad ab af ah ag HB an ao am ap b2 b5 aI aJ bv bw hHeld ⊢
            refine zu 0 (some 29) #[tt, ff, ff, ff, ff, ff, ff, ff, ff, ff, ff, ff, ff, ff, ff, ff, ff] (any_of HT_.out (by kernel_rfl)) ?_
            refine zu 2 (some 31) #[tt, ff, tt, ff, ff, ff, ff, ff, ff, ff, ff, ff, ff, ff, ff, ff, ff] (any_of HT_.out (by kernel_rfl)) ?_
            refine zu 5 (some 34) #[tt, ff, tt, ff, ff, tt, ff, ff, ff, ff, ff, ff, ff, ff, ff, ff, ff] (any_of HT_.out (by kernel_rfl)) ?_
            refine zu 7 (some 36) #[tt, ff, tt, ff, ff, tt, ff, tt, ff, ff, ff, ff, ff, ff, ff, ff, ff] (any_of HT_.out (by kernel_rfl)) ?_
            refine zu 15 (some 44) #[tt, ff, tt, ff, ff, tt, ff, tt, ff, ff, ff, ff, ff, ff, ff, tt, ff] (any_of HT_.out (by kernel_rfl)) ?_
            refine zt 1 (some 30) #[tt, tt, tt, ff, ff, tt, ff, tt, ff, ff, ff, ff, ff, ff, ff, tt, ff] (take_ofW HT_.out HW_.out (by kernel_rfl)) hHeld ?_
            refine zu 3 (some 32) #[tt, tt, tt, tt, ff, tt, ff, tt, ff, ff, ff, ff, ff, ff, ff, tt, ff] (any_of HT_.out (by kernel_rfl)) ?_
            refine zt 4 (some 33) #[tt, tt, tt, tt, tt, tt, ff, tt, ff, ff, ff, ff, ff, ff, ff, tt, ff] (take_ofW HT_.out HW_.out (by kernel_rfl)) hHeld ?_
            refine zt 6 (some 35) #[tt, tt, tt, tt, tt, tt, tt, tt, ff, ff, ff, ff, ff, ff, ff, tt, ff] (take_ofW HT_.out HW_.out (by kernel_rfl)) hHeld ?_
            refine zu 8 (some 37) #[tt, tt, tt, tt, tt, tt, tt, tt, tt, ff, ff, ff, ff, ff, ff, tt, ff] (any_of HT_.out (by kernel_rfl)) ?_
            refine zt 9 (some 38) #[tt, tt, tt, tt, tt, tt, tt, tt, tt, tt, ff, ff, ff, ff, ff, tt, ff] (take_ofW HT_.out HW_.out (by kernel_rfl)) hHeld ?_
            refine zu 10 (some 39) #[tt, tt, tt, tt, tt, tt, tt, tt, tt, tt, tt, ff, ff, ff, ff, tt, ff] (any_of HT_.out (by kernel_rfl)) ?_
            refine zu 11 (some 40) #[tt, tt, tt, tt, tt, tt, tt, tt, tt, tt, tt, tt, ff, ff, ff, tt, ff] (any_of HT_.out (by kernel_rfl)) ?_
            refine zu 12 (some 41) #[tt, tt, tt, tt, tt, tt, tt, tt, tt, tt, tt, tt, tt, ff, ff, tt, ff] (any_of HT_.out (by kernel_rfl)) ?_
            refine zu 13 (some 42) #[tt, tt, tt, tt, tt, tt, tt, tt, tt, tt, tt, tt, tt, tt, ff, tt, ff] (any_of HT_.out (by kernel_rfl)) ?_
            refine zt 14 (some 43) #[tt, tt, tt, tt, tt, tt, tt, tt, tt, tt, tt, tt, tt, tt, tt, tt, ff] (take_ofW HT_.out HW_.out (by kernel_rfl)) hHeld ?_
            refine zu 16 (some 45) #[tt, tt, tt, tt, tt, tt, tt, tt, tt, tt, tt, tt, tt, tt, tt, tt, tt] (any_of HT_.out (by kernel_rfl)) ?_
            refine done_ (done_of HT_.out (by kernel_rfl)) ?_
            try go_wp2
            have aV := zK (Kd.R_drew aw.out)
            have aW := zK (Kd.S_drew ad.out)
            have aX := zK (Kd.S_drew ab.out)
            have aY := zK (Kd.R_drew an.out)
            have a5 := zK (Kd.R_drew ao.out)
            have bj := zK (zD af.out)
            have bm := zK (zD ah.out)
            have bW := zK (zD ag.out)
            have bX := zK (Kd.C_drew am.out)
            have bY := zK (Kd.C_drew ap.out)
            have a4 := zK (zE HB.out)
            clear aw ad ab an ao af ah ag am ap HB; have aw := aV; have ad := aW; have ab := aX; have an := aY; have ao := a5; have af := bj; have ah := bm; have ag := bW; have am := bX; have ap := bY; have HB := a4; clear aV aW aX aY a5 bj bm bW bX bY a4
            have cy : 0 ≤ (ac : Int) := of_decide_eq_true (by first | (with_reducible assumption) | assumption)
            have cz : ac < (aa.length : Int) := of_decide_eq_true (by first | (with_reducible assumption) | assumption)
            obtain ⟨dJ, eL, cn, eM, bb, b8, b9⟩ := at_L2 (Kd.S_reads' ab.out).2.2 ac cy cz
            obtain rfl : aC = dJ := (by injection eM)
            obtain ⟨ft, cM, cN, co⟩ := Kd.S_get ab.out [] ac cy (by first | exact cz | exact of_decide_eq_true (by first | (with_reducible assumption) | assumption) | (have e_ := (Kd.S_reads' ab.out).1; omega))
            obtain ⟨em, rfl, bC⟩ := cN
            have bc := co 0 _ rfl
            rw [Nat.add_zero, show ((Kd.slice 30 k30)).sz = 1 from rfl, Nat.mul_one] at bc
            replace bc := Option.some.inj (bc.symm.trans bb)
            rw [bc] at bC
            have aj := zK (show Kd.R k30 30 _ _ _ _ (rd_L2 aa ac) from bC)
            clear bc bC; have bk := zK bb; clear co cM; have ay := zK b9; have en := zK b8; clear b9 b8; replace cy := eq_true cy; replace cz := eq_true cz
            have cA : 0 ≤ (ac : Int) := of_decide_eq_true (by first | (with_reducible assumption) | assumption)
            have cB : ac < (aa.length : Int) := of_decide_eq_true (by first | (with_reducible assumption) | assumption)
            obtain ⟨dK, eN, eO, eP, bd, ca, cb⟩ := at_L2 (Kd.S_reads' ab.out).2.2 ac cA cB
            obtain rfl : aC = dK := (by injection eP)
            obtain ⟨fu, cO, cP, cp⟩ := Kd.S_get ab.out [] ac cA (by first | exact cB | exact of_decide_eq_true (by first | (with_reducible assumption) | assumption) | (have e_ := (Kd.S_reads' ab.out).1; omega))
            obtain ⟨eo, rfl, bD⟩ := cP
            have be := cp 0 _ rfl
            rw [Nat.add_zero, show ((Kd.slice 30 k30)).sz = 1 from rfl, Nat.mul_one] at be
            replace be := Option.some.inj (be.symm.trans bd)
            rw [be] at bD
            have az := zK (show Kd.R k30 30 _ _ _ _ (rd_L2 aa ac) from bD)
            clear be bD; have bl := zK bd; clear cp cO; have aE := zK cb; have ep := zK ca; clear cb ca; replace cA := eq_true cA; replace cB := eq_true cB
            have ea_ := Option.some.inj (bb.symm.trans bd)
            injection ea_ with ea_ en_ ec_
            subst ea_; subst ec_; clear en_
            have cQ : 0 ≤ ((ak) : Int) := of_decide_eq_true (by first | (with_reducible assumption) | assumption)
            have cR : (ak) < ((rd_L2 aa ac).length : Int) := of_decide_eq_true (by first | (with_reducible assumption) | assumption)
            obtain ⟨bK, eQ, cc, cd⟩ := at_T30 (by repeat (first | (with_reducible exact ay.out) | (with_reducible refine Kd.C_alloc ?_ _) | (with_reducible refine Kd.C_drewN ?_ _) | (with_reducible refine Kd.C_drew ?_) | exact ay.out)) (ak) cQ cR
            cases eQ
            replace cQ := eq_true cQ; replace cR := eq_true cR
            refine start_ (n := 16) (S := fun w' => w'.cell? ⟨al, 0, none⟩ = some (.int .i64 ai) ∧ w'.cell? ⟨al, 1, none⟩ = some (.slice (some aC) aa.length cu) ∧ w'.cell? (aC.add (ac).toNat) = some (.slice (some bK) (rd_L2 aa ac).length cn) ∧ w'.cell? (aC.add (ac).toNat) = some (.slice (some bK) (rd_L2 aa ac).length cn) ∧ w'.cell? (bK.add (((ak)).toNat * 2)) = some (.int .i64 ((rd_T30 (rd_L2 aa ac) (ak)).f0)) ∧ w'.cell? ⟨(bK.add (((ak)).toNat * 2)).block, (bK.add (((ak)).toNat * 2)).off + 1, none⟩ = some (.int .i64 ((rd_T30 (rd_L2 aa ac) (ak)).f1))) (ds := []) #[ff, ff, ff, ff, ff, ff, ff, ff, ff, ff, ff, ff, ff, ff, ff, ff] (by kernel_rfl) rfl rfl ⟨(blk_cell ag.out 0).trans rfl, (blk_cell ag.out 1).trans rfl, bb, bd, cc, cd⟩ (fun hHeld => ?_); refine with_tabW spec_TakeBag.tab8 spec_TakeBag.bits8 (fun HT_ HW_ => ?_)
            generalize w60.drew = w62 at aw ad ab an ao af ah ag am ap HB aj az ay aE bk bl bb bd cc cd hHeld ⊢
            refine zu 0 (some 46) #[tt, ff, ff, ff, ff, ff, ff, ff, ff, ff, ff, ff, ff, ff, ff, ff] (any_of HT_.out (by kernel_rfl)) ?_
            refine zu 2 (some 48) #[tt, ff, tt, ff, ff, ff, ff, ff, ff, ff, ff, ff, ff, ff, ff, ff] (any_of HT_.out (by kernel_rfl)) ?_
            refine zu 5 (some 51) #[tt, ff, tt, ff, ff, tt, ff, ff, ff, ff, ff, ff, ff, ff, ff, ff] (any_of HT_.out (by kernel_rfl)) ?_
            refine zu 7 (some 53) #[tt, ff, tt, ff, ff, tt, ff, tt, ff, ff, ff, ff, ff, ff, ff, ff] (any_of HT_.out (by kernel_rfl)) ?_
            refine zt 1 (some 47) #[tt, tt, tt, ff, ff, tt, ff, tt, ff, ff, ff, ff, ff, ff, ff, ff] (take_ofW HT_.out HW_.out (by kernel_rfl)) hHeld ?_
            refine zu 3 (some 49) #[tt, tt, tt, tt, ff, tt, ff, tt, ff, ff, ff, ff, ff, ff, ff, ff] (any_of HT_.out (by kernel_rfl)) ?_
            refine zt 4 (some 50) #[tt, tt, tt, tt, tt, tt, ff, tt, ff, ff, ff, ff, ff, ff, ff, ff] (take_ofW HT_.out HW_.out (by kernel_rfl)) hHeld ?_
            refine zt 6 (some 52) #[tt, tt, tt, tt, tt, tt, tt, tt, ff, ff, ff, ff, ff, ff, ff, ff] (take_ofW HT_.out HW_.out (by kernel_rfl)) hHeld ?_
            refine zu 8 (some 54) #[tt, tt, tt, tt, tt, tt, tt, tt, tt, ff, ff, ff, ff, ff, ff, ff] (any_of HT_.out (by kernel_rfl)) ?_
            refine zt 9 (some 55) #[tt, tt, tt, tt, tt, tt, tt, tt, tt, tt, ff, ff, ff, ff, ff, ff] (take_ofW HT_.out HW_.out (by kernel_rfl)) hHeld ?_
            refine zu 10 (some 56) #[tt, tt, tt, tt, tt, tt, tt, tt, tt, tt, tt, ff, ff, ff, ff, ff] (any_of HT_.out (by kernel_rfl)) ?_
            refine zu 11 (some 57) #[tt, tt, tt, tt, tt, tt, tt, tt, tt, tt, tt, tt, ff, ff, ff, ff] (any_of HT_.out (by kernel_rfl)) ?_
            refine zu 12 (some 58) #[tt, tt, tt, tt, tt, tt, tt, tt, tt, tt, tt, tt, tt, ff, ff, ff] (any_of HT_.out (by kernel_rfl)) ?_
            refine zt 13 (some 59) #[tt, tt, tt, tt, tt, tt, tt, tt, tt, tt, tt, tt, tt, tt, ff, ff] (take_ofW HT_.out HW_.out (by kernel_rfl)) hHeld ?_
            refine one_ (i := 14) (N := some 10) #[tt, tt, tt, tt, tt, tt, tt, tt, tt, tt, tt, tt, tt, tt, tt, ff] rfl rfl (one_of HT_.out (by kernel_rfl)) (by decide) (fun K hK => ?_)
            refine box_step ?hg (N := 10) ?hd (cs := #[.int .i64 0, .int .i64 0]) (t := 30) ?hr ?_; (case hd => rfl); (case hg => rfl); (case hr => first | (go_simp; done) | (go_simp; rfl))
            intro ae hg eX hbox hb
            have eR := (hb.cell (World.block_lt_of_cell? _ _ (hHeld.2.2.1))).trans (hHeld.2.2.1)
            have eS := (hb.cell (World.block_lt_of_cell? _ _ (hHeld.2.2.2.1))).trans (hHeld.2.2.2.1)
            have eT := (hb.cell (World.block_lt_of_cell? _ _ (hHeld.2.2.2.2.1))).trans (hHeld.2.2.2.2.1)
            have eU := (hb.cell (World.block_lt_of_cell? _ _ (hHeld.2.2.2.2.2))).trans (hHeld.2.2.2.2.2)
            have aV := zK (Kd.R_below (zR aw) hb)
            have aW := zK (Kd.S_below (Kd.S_elderB (zT ad) ae (Nat.le_of_eq hg.symm)) hb)
            have aX := zK (Kd.S_below (Kd.S_elderB (zT ab) ae (Nat.le_of_eq hg.symm)) hb)
            have aY := zK (Kd.R_below (Kd.R_elderB (zR an) ae (Nat.le_of_eq hg.symm)) hb)
            have a5 := zK (Kd.R_below (Kd.R_elderB (zR ao) ae (Nat.le_of_eq hg.symm)) hb)
            have bj := zK (Kd.R_below (Kd.R_elderB (zR aj) ae (Nat.le_of_eq hg.symm)) hb)
            have bm := zK (Kd.R_below (Kd.R_elderB (zR az) ae (Nat.le_of_eq hg.symm)) hb)
            have bW := zK (blk_below (g := ar) (o := .cells #[.int .i64 av, .slice aK aq.length aM] 24 (0, 0)) (zk af) hb)
            have bX := zK (blk_below (g := au) (o := .cells #[.int .i64 ax, .slice none 0 0] 24 (0, 0)) (zk ah) hb)
            have bY := zK (blk_below (g := al) (o := .cells #[.int .i64 ai, .slice (some aC) aa.length cu] 24 (0, 0)) (zk ag) hb)
            have a4 := zK (Kd.C_below (by repeat (first | (with_reducible exact am.out) | (with_reducible refine Kd.C_alloc ?_ _) | (with_reducible refine Kd.C_drewN ?_ _) | (with_reducible refine Kd.C_drew ?_) | exact am.out)) hb)
            have bn := zK (Kd.C_below (by repeat (first | (with_reducible exact ap.out) | (with_reducible refine Kd.C_alloc ?_ _) | (with_reducible refine Kd.C_drewN ?_ _) | (with_reducible refine Kd.C_drew ?_) | exact ap.out)) hb)
            have bo := zK (Kd.C_below (by repeat (first | (with_reducible exact ay.out) | (with_reducible refine Kd.C_alloc ?_ _) | (with_reducible refine Kd.C_drewN ?_ _) | (with_reducible refine Kd.C_drew ?_) | exact ay.out)) hb)
            have bL := zK (pw_cell_below hb bk.out)
            have bM := zK (Kd.C_below (by repeat (first | (with_reducible exact aE.out) | (with_reducible refine Kd.C_alloc ?_ _) | (with_reducible refine Kd.C_drewN ?_ _) | (with_reducible refine Kd.C_drew ?_) | exact aE.out)) hb)
            have bN := zK (pw_cell_below hb bl.out)
            have cq := zK (below_step (zb HB) hb)
            have dL := zK (hbox)
            have dM := zK ((by rw [hg]; exact (below_size (zb HB)) : w.heap.size ≤ ae))
            have dN := zK ((by rw [hg]; exact (below_size (zb HB)) : w.heap.size ≤ ae))
            have dO := zK ((by rw [hg]; exact Nat.ne_of_lt (blk_lt (g := ar) (o := .cells #[.int .i64 av, .slice aK aq.length aM] 24 (0, 0)) (zk af)) : ar ≠ ae))
            have dP := zK ((by rw [hg]; exact Nat.ne_of_gt (blk_lt (g := ar) (o := .cells #[.int .i64 av, .slice aK aq.length aM] 24 (0, 0)) (zk af)) : ae ≠ ar))
            have dQ := zK ((by rw [hg]; exact Nat.ne_of_lt (blk_lt (g := au) (o := .cells #[.int .i64 ax, .slice none 0 0] 24 (0, 0)) (zk ah)) : au ≠ ae))
            have dR := zK ((by rw [hg]; exact Nat.ne_of_gt (blk_lt (g := au) (o := .cells #[.int .i64 ax, .slice none 0 0] 24 (0, 0)) (zk ah)) : ae ≠ au))
            have dS := zK ((by rw [hg]; exact Nat.ne_of_lt (blk_lt (g := al) (o := .cells #[.int .i64 ai, .slice (some aC) aa.length cu] 24 (0, 0)) (zk ag)) : al ≠ ae))
            have dT := zK ((by rw [hg]; exact Nat.ne_of_gt (blk_lt (g := al) (o := .cells #[.int .i64 ai, .slice (some aC) aa.length cu] 24 (0, 0)) (zk ag)) : ae ≠ al))
            clear aw ad ab an ao aj az af ah ag am ap ay bk aE bl HB; have aw := aV; have ad := aW; have ab := aX; have an := aY; have ao := a5; have aj := bj; have az := bm; have af := bW; have ah := bX; have ag := bY; have am := a4; have ap := bn; have ay := bo; have bk := bL; have aE := bM; have bl := bN; have HB := cq; have aD := dL; have fv := dM; have bO := dN; have aR := dO; have bg := dP; have aT := dQ; have bh := dR; have aA := dS; have a0 := dT; clear aV aW aX aY a5 bj bm bW bX bY a4 bn bo bL bM bN cq dL dM dN dO dP dQ dR dS dT hb hbox hg
            refine hK.out _ _ ⟨(blk_cell ag.out 0).trans rfl, (blk_cell ag.out 1).trans rfl, eR, eS, eT, eU⟩ (fun hHeld => ?_)
            clear hK K
            refine norm_ (a' := ?_) ?_ ?_
            rotate_left
            ·show Act.put _ (some 10) _ = _
             simp only [Act.put, zp, zq, zr, i64_w, i32_w]
             rfl
            refine one_ (i := 15) (N := none) #[tt, tt, tt, tt, tt, tt, tt, tt, tt, tt, tt, tt, tt, tt, tt, tt] rfl rfl (one_of HT_.out (by kernel_rfl)) (by decide) (fun K hK => ?_)
            have hs64 : eX.cell? ⟨ae, 0, none⟩ = some (.int .i64 0) := (blk_cell aD.out 0).trans rfl
            have hfs64 := blk_frozen aD.out 0; have hns64_0 := aR.out; have hns64_1 := aT.out; have hns64_2 := aA.out; have hms64_0 := bg.out; have hms64_1 := bh.out; have hms64_2 := a0.out
            have hs65 : eX.cell? ⟨ae, 1, none⟩ = some (.int .i64 0) := (blk_cell aD.out 1).trans rfl
            have hfs65 := blk_frozen aD.out 1; have hns65_0 := aR.out; have hns65_1 := aT.out; have hns65_2 := aA.out; have hms65_0 := bg.out; have hms65_1 := bh.out; have hms65_2 := a0.out
            refine skip_ (w1 := ?_) (by rfl) rfl ?_ ?_
            rotate_left
            ·go_simp
             rfl
            refine hK.out _ _ ⟨((cell_far (p := ⟨ae, _, none⟩) aA.out _).trans (((cell_far (p := ⟨ae, _, none⟩) aA.out _).trans (hHeld.1)))), ((cell_far (p := ⟨ae, _, none⟩) aA.out _).trans (((cell_far (p := ⟨ae, _, none⟩) aA.out _).trans (hHeld.2.1)))), ((cell_far (p := ⟨ae, _, none⟩) (by first | exact Kd.own_blk (Kd.S_away ab.out (fun _ hk => hk.2)) | (rw [add_block]; exact Kd.own_blk (Kd.S_away ab.out (fun _ hk => hk.2))) | (show (Addr.add _ _).block ≠ _; rw [add_block]; exact Kd.own_blk (Kd.S_away ab.out (fun _ hk => hk.2))) | (dsimp only; exact Kd.own_blk (Kd.S_away ab.out (fun _ hk => hk.2)))) _).trans (((cell_far (p := ⟨ae, _, none⟩) (by first | exact Kd.own_blk (Kd.S_away ab.out (fun _ hk => hk.2)) | (rw [add_block]; exact Kd.own_blk (Kd.S_away ab.out (fun _ hk => hk.2))) | (show (Addr.add _ _).block ≠ _; rw [add_block]; exact Kd.own_blk (Kd.S_away ab.out (fun _ hk => hk.2))) | (dsimp only; exact Kd.own_blk (Kd.S_away ab.out (fun _ hk => hk.2)))) _).trans (hHeld.2.2.1)))), ((cell_far (p := ⟨ae, _, none⟩) (by first | exact Kd.own_blk (Kd.S_away ab.out (fun _ hk => hk.2)) | (rw [add_block]; exact Kd.own_blk (Kd.S_away ab.out (fun _ hk => hk.2))) | (show (Addr.add _ _).block ≠ _; rw [add_block]; exact Kd.own_blk (Kd.S_away ab.out (fun _ hk => hk.2))) | (dsimp only; exact Kd.own_blk (Kd.S_away ab.out (fun _ hk => hk.2)))) _).trans (((cell_far (p := ⟨ae, _, none⟩) (by first | exact Kd.own_blk (Kd.S_away ab.out (fun _ hk => hk.2)) | (rw [add_block]; exact Kd.own_blk (Kd.S_away ab.out (fun _ hk => hk.2))) | (show (Addr.add _ _).block ≠ _; rw [add_block]; exact Kd.own_blk (Kd.S_away ab.out (fun _ hk => hk.2))) | (dsimp only; exact Kd.own_blk (Kd.S_away ab.out (fun _ hk => hk.2)))) _).trans (hHeld.2.2.2.1)))), ((cell_far (p := ⟨ae, _, none⟩) (by first | exact Kd.own_blk (Kd.R_away aj.out (fun _ hk => hk.2)) | (rw [add_block]; exact Kd.own_blk (Kd.R_away aj.out (fun _ hk => hk.2))) | (show (Addr.add _ _).block ≠ _; rw [add_block]; exact Kd.own_blk (Kd.R_away aj.out (fun _ hk => hk.2))) | (dsimp only; exact Kd.own_blk (Kd.R_away aj.out (fun _ hk => hk.2)))) _).trans (((cell_far (p := ⟨ae, _, none⟩) (by first | exact Kd.own_blk (Kd.R_away aj.out (fun _ hk => hk.2)) | (rw [add_block]; exact Kd.own_blk (Kd.R_away aj.out (fun _ hk => hk.2))) | (show (Addr.add _ _).block ≠ _; rw [add_block]; exact Kd.own_blk (Kd.R_away aj.out (fun _ hk => hk.2))) | (dsimp only; exact Kd.own_blk (Kd.R_away aj.out (fun _ hk => hk.2)))) _).trans (hHeld.2.2.2.2.1)))), ((cell_far (p := ⟨ae, _, none⟩) (by first | exact Kd.own_blk (Kd.R_away aj.out (fun _ hk => hk.2)) | (rw [add_block]; exact Kd.own_blk (Kd.R_away aj.out (fun _ hk => hk.2))) | (show (Addr.add _ _).block ≠ _; rw [add_block]; exact Kd.own_blk (Kd.R_away aj.out (fun _ hk => hk.2))) | (dsimp only; exact Kd.own_blk (Kd.R_away aj.out (fun _ hk => hk.2)))) _).trans (((cell_far (p := ⟨ae, _, none⟩) (by first | exact Kd.own_blk (Kd.R_away aj.out (fun _ hk => hk.2)) | (rw [add_block]; exact Kd.own_blk (Kd.R_away aj.out (fun _ hk => hk.2))) | (show (Addr.add _ _).block ≠ _; rw [add_block]; exact Kd.own_blk (Kd.R_away aj.out (fun _ hk => hk.2))) | (dsimp only; exact Kd.own_blk (Kd.R_away aj.out (fun _ hk => hk.2)))) _).trans (hHeld.2.2.2.2.2))))⟩ (fun hHeld => ?_)
            clear hK K
            refine done_ (done_of HT_.out (by kernel_rfl)) ?_
            have hnb66 := bR.out; have hnc66 := a6.out; have hnb67 := bS.out; have hnc67 := a7.out; have hnb68 := aA.out; have hnc68 := a0.out
            have hcz69_0 : eX.cell? ⟨al, 0, none⟩ = some (.int .i64 ai) := (blk_cell ag.out 0).trans rfl
            have hcz69_1 : eX.cell? ⟨al, 1, none⟩ = some (.slice (some aC) aa.length cu) := (blk_cell ag.out 1).trans rfl
            have hfz69_0 := blk_frozen ag.out 0; have hfz69_1 := blk_frozen ag.out 1; have hnb70 := bg.out; have hnc70 := aR.out; have hnb71 := bh.out; have hnc71 := aT.out
            have hcz72_0 : eX.cell? ⟨ae, 0, none⟩ = some (.int .i64 0) := (blk_cell aD.out 0).trans rfl
            have hcz72_1 : eX.cell? ⟨ae, 1, none⟩ = some (.int .i64 0) := (blk_cell aD.out 1).trans rfl
            have hfz72_0 := blk_frozen aD.out 0; have hfz72_1 := blk_frozen aD.out 1
            try go_wp2_with (first | ((with_reducible refine gate_callee (f := 26) rfl ?_); refine goesL_ (some 64) rfl rfl Try.func26 (by kernel_rfl) rfl #[.agg #[.int .i64 ai, .slice (some aC) aa.length cu], .int .i64 ((rd_T30 (rd_L2 aa ac) (ak)).f1), .int .i64 ac] rfl (by (try simp only [List.map_toArray, List.map_cons, List.map_nil]); first | done | (simp only [cg]; rfl) | rfl | (simp only [List.length_drop, List.length_take]; rfl)) ?_; (with_reducible refine (spec_LaneFor.calls k2 ai _ _ aa ((rd_T30 (rd_L2 aa ac) (ak)).f1) ac bB _ ?side1 ?side2 A58.out).mono ?_); (case side1 => refine (Kd.S_reads' (e := 28) (base := w.heap.size) (ok := fun k_ => (some k_ ≠ (.slice aK aq.length aM : Value).ownBlock ∧ k_ ≠ ae)) (n := aa.length) (c := cu) ?_).2.2; exact (by (with_reducible repeat (first | apply Kd.S_alloc | apply Kd.S_drewN | apply Kd.S_drew)); exact (Kd.S_mono (Kd.S_far (p := ⟨ae, 1, none⟩) (Kd.S_far (p := ⟨ae, 0, none⟩) (Kd.S_mono ab.out (fun k_ hk => (⟨hk, hk.2⟩ : _ ∧ k_ ≠ ae))) (fun _ hk => hk.2) (.int .i64 ((rd_T30 (rd_L2 aa ac) (ak)).f0))) (fun _ hk => hk.2) (.int .i64 ((rd_T30 (rd_L2 aa ac) (ak)).f1))) (fun _ h_ => h_.1)))); (case side2 => exact (Kd.S_reads' ab.out).2.1); rintro e w73 ⟨rfl, hb⟩; refine ⟨_, rfl, ?_⟩; have aV := zK (Kd.R_below (by (with_reducible repeat (first | apply Kd.R_alloc | apply Kd.R_drewN | apply Kd.R_drew)); exact (Kd.R_mono (Kd.R_far (p := ⟨ae, 1, none⟩) (Kd.R_far (p := ⟨ae, 0, none⟩) (Kd.R_types aw.out aD.out (by decide)) (fun _ hk => hk.2) (.int .i64 ((rd_T30 (rd_L2 aa ac) (ak)).f0))) (fun _ hk => hk.2) (.int .i64 ((rd_T30 (rd_L2 aa ac) (ak)).f1))) (fun _ h_ => h_.1))) hb); have aW := zK (Kd.S_below (by (with_reducible repeat (first | apply Kd.S_alloc | apply Kd.S_drewN | apply Kd.S_drew)); exact (Kd.S_mono (Kd.S_far (p := ⟨ae, 1, none⟩) (Kd.S_far (p := ⟨ae, 0, none⟩) (Kd.S_mono ad.out (fun k_ hk => (⟨hk, hk.2⟩ : _ ∧ k_ ≠ ae))) (fun _ hk => hk.2) (.int .i64 ((rd_T30 (rd_L2 aa ac) (ak)).f0))) (fun _ hk => hk.2) (.int .i64 ((rd_T30 (rd_L2 aa ac) (ak)).f1))) (fun _ h_ => h_.1))) hb); have aX := zK (Kd.S_below (by (with_reducible repeat (first | apply Kd.S_alloc | apply Kd.S_drewN | apply Kd.S_drew)); exact (Kd.S_mono (Kd.S_far (p := ⟨ae, 1, none⟩) (Kd.S_far (p := ⟨ae, 0, none⟩) (Kd.S_mono ab.out (fun k_ hk => (⟨hk, hk.2⟩ : _ ∧ k_ ≠ ae))) (fun _ hk => hk.2) (.int .i64 ((rd_T30 (rd_L2 aa ac) (ak)).f0))) (fun _ hk => hk.2) (.int .i64 ((rd_T30 (rd_L2 aa ac) (ak)).f1))) (fun _ h_ => h_.1))) hb); have aY := zK (Kd.R_below (by (with_reducible repeat (first | apply Kd.R_alloc | apply Kd.R_drewN | apply Kd.R_drew)); exact (Kd.R_mono (Kd.R_far (p := ⟨ae, 1, none⟩) (Kd.R_far (p := ⟨ae, 0, none⟩) (Kd.R_mono an.out (fun k_ hk => (⟨hk, hk.2⟩ : _ ∧ k_ ≠ ae))) (fun _ hk => hk.2) (.int .i64 ((rd_T30 (rd_L2 aa ac) (ak)).f0))) (fun _ hk => hk.2) (.int .i64 ((rd_T30 (rd_L2 aa ac) (ak)).f1))) (fun _ h_ => h_.1))) hb); have a5 := zK (Kd.R_below (by (with_reducible repeat (first | apply Kd.R_alloc | apply Kd.R_drewN | apply Kd.R_drew)); exact (Kd.R_mono (Kd.R_far (p := ⟨ae, 1, none⟩) (Kd.R_far (p := ⟨ae, 0, none⟩) (Kd.R_mono ao.out (fun k_ hk => (⟨hk, hk.2⟩ : _ ∧ k_ ≠ ae))) (fun _ hk => hk.2) (.int .i64 ((rd_T30 (rd_L2 aa ac) (ak)).f0))) (fun _ hk => hk.2) (.int .i64 ((rd_T30 (rd_L2 aa ac) (ak)).f1))) (fun _ h_ => h_.1))) hb); have bj := zK (Kd.R_below (by (with_reducible repeat (first | apply Kd.R_alloc | apply Kd.R_drewN | apply Kd.R_drew)); exact (Kd.R_mono (Kd.R_far (p := ⟨ae, 1, none⟩) (Kd.R_far (p := ⟨ae, 0, none⟩) (Kd.R_mono aj.out (fun k_ hk => (⟨hk, hk.2⟩ : _ ∧ k_ ≠ ae))) (fun _ hk => hk.2) (.int .i64 ((rd_T30 (rd_L2 aa ac) (ak)).f0))) (fun _ hk => hk.2) (.int .i64 ((rd_T30 (rd_L2 aa ac) (ak)).f1))) (fun _ h_ => h_.1))) hb); have bm := zK (Kd.R_below (by (with_reducible repeat (first | apply Kd.R_alloc | apply Kd.R_drewN | apply Kd.R_drew)); exact (Kd.R_mono (Kd.R_far (p := ⟨ae, 1, none⟩) (Kd.R_far (p := ⟨ae, 0, none⟩) (Kd.R_mono az.out (fun k_ hk => (⟨hk, hk.2⟩ : _ ∧ k_ ≠ ae))) (fun _ hk => hk.2) (.int .i64 ((rd_T30 (rd_L2 aa ac) (ak)).f0))) (fun _ hk => hk.2) (.int .i64 ((rd_T30 (rd_L2 aa ac) (ak)).f1))) (fun _ h_ => h_.1))) hb); have bW := zK (blk_below (g := ar) (o := .cells #[.int .i64 av, .slice aK aq.length aM] 24 (0, 0)) (by (with_reducible repeat (first | refine zN ?_ _ | refine zD ?_ | refine zA ?_ _)); refine blk_far ?_ aR.out _; (with_reducible repeat (first | refine zN ?_ _ | refine zD ?_ | refine zA ?_ _)); refine blk_far ?_ aR.out _; (with_reducible repeat (first | refine zN ?_ _ | refine zD ?_ | refine zA ?_ _)); exact af.out) hb); have bX := zK (blk_below (g := au) (o := .cells #[.int .i64 ax, .slice none 0 0] 24 (0, 0)) (by (with_reducible repeat (first | refine zN ?_ _ | refine zD ?_ | refine zA ?_ _)); refine blk_far ?_ aT.out _; (with_reducible repeat (first | refine zN ?_ _ | refine zD ?_ | refine zA ?_ _)); refine blk_far ?_ aT.out _; (with_reducible repeat (first | refine zN ?_ _ | refine zD ?_ | refine zA ?_ _)); exact ah.out) hb); have bY := zK (blk_below (g := al) (o := .cells #[.int .i64 ai, .slice (some aC) aa.length cu] 24 (0, 0)) (by (with_reducible repeat (first | refine zN ?_ _ | refine zD ?_ | refine zA ?_ _)); refine blk_far ?_ aA.out _; (with_reducible repeat (first | refine zN ?_ _ | refine zD ?_ | refine zA ?_ _)); refine blk_far ?_ aA.out _; (with_reducible repeat (first | refine zN ?_ _ | refine zD ?_ | refine zA ?_ _)); exact ag.out) hb); have a4 := zK (Kd.C_below ((Kd.R_reads' (by (with_reducible repeat (first | apply Kd.R_alloc | apply Kd.R_drewN | apply Kd.R_drew)); exact (Kd.R_mono (Kd.R_far (p := ⟨ae, 1, none⟩) (Kd.R_far (p := ⟨ae, 0, none⟩) (Kd.R_mono an.out (fun k_ hk => (⟨hk, hk.2⟩ : _ ∧ k_ ≠ ae))) (fun _ hk => hk.2) (.int .i64 ((rd_T30 (rd_L2 aa ac) (ak)).f0))) (fun _ hk => hk.2) (.int .i64 ((rd_T30 (rd_L2 aa ac) (ak)).f1))) (fun _ h_ => h_.1)))).2.2) hb); have bn := zK (Kd.C_below ((Kd.R_reads' (by (with_reducible repeat (first | apply Kd.R_alloc | apply Kd.R_drewN | apply Kd.R_drew)); exact (Kd.R_mono (Kd.R_far (p := ⟨ae, 1, none⟩) (Kd.R_far (p := ⟨ae, 0, none⟩) (Kd.R_mono ao.out (fun k_ hk => (⟨hk, hk.2⟩ : _ ∧ k_ ≠ ae))) (fun _ hk => hk.2) (.int .i64 ((rd_T30 (rd_L2 aa ac) (ak)).f0))) (fun _ hk => hk.2) (.int .i64 ((rd_T30 (rd_L2 aa ac) (ak)).f1))) (fun _ h_ => h_.1)))).2.2) hb); have bo := zK (Kd.C_below ((Kd.R_reads' (by (with_reducible repeat (first | apply Kd.R_alloc | apply Kd.R_drewN | apply Kd.R_drew)); exact (Kd.R_mono (Kd.R_far (p := ⟨ae, 1, none⟩) (Kd.R_far (p := ⟨ae, 0, none⟩) (Kd.R_mono aj.out (fun k_ hk => (⟨hk, hk.2⟩ : _ ∧ k_ ≠ ae))) (fun _ hk => hk.2) (.int .i64 ((rd_T30 (rd_L2 aa ac) (ak)).f0))) (fun _ hk => hk.2) (.int .i64 ((rd_T30 (rd_L2 aa ac) (ak)).f1))) (fun _ h_ => h_.1)))).2.2) hb); have bL := zK (Kd.C_below ((Kd.R_reads' (by (with_reducible repeat (first | apply Kd.R_alloc | apply Kd.R_drewN | apply Kd.R_drew)); exact (Kd.R_mono (Kd.R_far (p := ⟨ae, 1, none⟩) (Kd.R_far (p := ⟨ae, 0, none⟩) (Kd.R_mono az.out (fun k_ hk => (⟨hk, hk.2⟩ : _ ∧ k_ ≠ ae))) (fun _ hk => hk.2) (.int .i64 ((rd_T30 (rd_L2 aa ac) (ak)).f0))) (fun _ hk => hk.2) (.int .i64 ((rd_T30 (rd_L2 aa ac) (ak)).f1))) (fun _ h_ => h_.1)))).2.2) hb); have bM := zK (blk_below (g := ae) (o := .cells #[.int .i64 ((rd_T30 (rd_L2 aa ac) (ak)).f0), .int .i64 ((rd_T30 (rd_L2 aa ac) (ak)).f1)] 30 (0, 0)) (by (with_reducible repeat (first | refine zN ?_ _ | refine zD ?_ | refine zA ?_ _)); refine blk_put (cs := #[.int .i64 ((rd_T30 (rd_L2 aa ac) (ak)).f0), .int .i64 0]) ?_ 1 _ rfl; (with_reducible repeat (first | refine zN ?_ _ | refine zD ?_ | refine zA ?_ _)); refine blk_put (cs := #[.int .i64 0, .int .i64 0]) ?_ 0 _ rfl; (with_reducible repeat (first | refine zN ?_ _ | refine zD ?_ | refine zA ?_ _)); exact aD.out) hb); have bN := zK (below_step (zb HB) hb); clear aw; clear ad; clear ab; clear an; clear ao; clear aj; clear az; clear af; clear ah; clear ag; clear am; clear ap; clear ay; clear aE; clear aD; clear HB; have aw := aV; have ad := aW; have ab := aX; have an := aY; have ao := a5; have aj := bj; have az := bm; have af := bW; have ah := bX; have ag := bY; have am := a4; have ap := bn; have ay := bo; have aE := bL; have aD := bM; have HB := bN; clear aV aW aX aY a5 bj bm bW bX bY a4 bn bo bL bM bN; (try clear hb); (try clear hk); have hnb74 := bf.out; have hnc74 := aZ.out; have hcz75_0 : w73.cell? ⟨ar, 0, none⟩ = some (.int .i64 av) := (blk_cell af.out 0).trans rfl; have hcz75_1 : w73.cell? ⟨ar, 1, none⟩ = some (.slice aK aq.length aM) := (blk_cell af.out 1).trans rfl; have hfz75_0 := blk_frozen af.out 0; have hfz75_1 := blk_frozen af.out 1) | ((with_reducible refine gate_dst (N := 68) rfl ?_); refine Kd.R_lit k78 _ 78 ?hg (N := 68) ?hd (xs := ([] : List (S78))) (inner := []) (ok := fun _ => True) (okp := fun _ => True) ?hr ?hp (fun _ hk => hk) trivial (Below.refl _ _) (Nat.le_refl _) (by simp) ?_; (case hd => rfl); (case hg => rfl); (case hr => first | (go_simp; done) | (go_simp; rfl)); (case hp => exact (Reps.none _ _)); intro v812 w76 ho77 hb hg_ hnew_; clear hg_ hnew_; (first | rw [← Ny811.out] at ho77 | (simp only [Int.reduceToNat] at ho77; rw [← Ny811.out] at ho77)); have aV := zK (Kd.R_elder' (zR aw) (Kd.R_base ho77) hb); have aW := zK (Kd.S_below (zT ad) hb); have aX := zK (Kd.S_below (zT ab) hb); have aY := zK (Kd.R_below (zR an) hb); have a5 := zK (Kd.R_below (zR ao) hb); have bj := zK (Kd.R_below (zR aj) hb); have bm := zK (Kd.R_below (zR az) hb); have bW := zK (Kd.R_lower (Kd.R_new' ho77 (Kd.R_lt (zR aw))) (below_size (zb HB))); have bX := zK (blk_below (g := ar) (o := .cells #[.int .i64 av, .slice aK aq.length aM] 24 (0, 0)) (zk af) hb); have bY := zK (blk_below (g := au) (o := .cells #[.int .i64 ax, .slice none 0 0] 24 (0, 0)) (zk ah) hb); have a4 := zK (blk_below (g := al) (o := .cells #[.int .i64 ai, .slice (some aC) aa.length cu] 24 (0, 0)) (zk ag) hb); have bn := zK (Kd.C_below (by repeat (first | (with_reducible exact am.out) | (with_reducible refine Kd.C_alloc ?_ _) | (with_reducible refine Kd.C_drewN ?_ _) | (with_reducible refine Kd.C_drew ?_) | exact am.out)) hb); have bo := zK (Kd.C_below (by repeat (first | (with_reducible exact ap.out) | (with_reducible refine Kd.C_alloc ?_ _) | (with_reducible refine Kd.C_drewN ?_ _) | (with_reducible refine Kd.C_drew ?_) | exact ap.out)) hb); have bL := zK (Kd.C_below (by repeat (first | (with_reducible exact ay.out) | (with_reducible refine Kd.C_alloc ?_ _) | (with_reducible refine Kd.C_drewN ?_ _) | (with_reducible refine Kd.C_drew ?_) | exact ay.out)) hb); have bM := zK (Kd.C_below (by repeat (first | (with_reducible exact aE.out) | (with_reducible refine Kd.C_alloc ?_ _) | (with_reducible refine Kd.C_drewN ?_ _) | (with_reducible refine Kd.C_drew ?_) | exact aE.out)) hb); have bN := zK (blk_below (g := ae) (o := .cells #[.int .i64 ((rd_T30 (rd_L2 aa ac) (ak)).f0), .int .i64 ((rd_T30 (rd_L2 aa ac) (ak)).f1)] 30 (0, 0)) (zk aD) hb); have cq := zK (below_step (zb HB) hb); clear aw; clear ad; clear ab; clear an; clear ao; clear aj; clear az; clear af; clear ah; clear ag; clear am; clear ap; clear ay; clear aE; clear aD; clear HB; have aw := aV; have ad := aW; have ab := aX; have an := aY; have ao := a5; have aj := bj; have az := bm; have fw := bW; have af := bX; have ah := bY; have ag := a4; have am := bn; have ap := bo; have ay := bL; have aE := bM; have aD := bN; have HB := cq; clear aV aW aX aY a5 bj bm bW bX bY a4 bn bo bL bM bN cq; clear hb ho77; have hcz78_0 : w76.cell? ⟨au, 0, none⟩ = some (.int .i64 ax) := (blk_cell ah.out 0).trans rfl; have hcz78_1 : w76.cell? ⟨au, 1, none⟩ = some (.slice none 0 0) := (blk_cell ah.out 1).trans rfl; have hfz78_0 := blk_frozen ah.out 0; have hfz78_1 := blk_frozen ah.out 1))
            refine bodyPost_ret (results_ctt rfl _ _ au 24 #[.int .i64 av, .slice aK aq.length aM] (0, 0) _ rfl (by (with_reducible repeat (first | refine zN ?_ _ | refine zD ?_ | refine zA ?_ _)); refine blk_put (cs := #[.int .i64 av, .slice none 0 0]) ?_ 1 _ rfl; (with_reducible repeat (first | refine zN ?_ _ | refine zD ?_ | refine zA ?_ _)); refine blk_put (cs := #[.int .i64 ax, .slice none 0 0]) ?_ 0 _ rfl; (with_reducible repeat (first | refine zN ?_ _ | refine zD ?_ | refine zA ?_ _)); exact ah.out) Try.underlying24 rfl (by kernel_rfl)) rfl ?_
            exact ⟨_, _, by first | rfl | (simp [errW_none, errW_some] <;> rfl) | (simp only [← cg]; first | rfl | (simp [errW_none, errW_some] <;> rfl)) | (simp [*, errW_none, errW_some] <;> rfl), by (with_reducible repeat (first | apply Kd.S_alloc | apply Kd.S_drewN | apply Kd.S_drew)); exact Kd.S_mono (Kd.S_far (p := ⟨au, 1, none⟩) (Kd.S_far (p := ⟨au, 0, none⟩) (Kd.S_types ad.out ah.out (by decide)) (fun _ hk => hk.2) (.int .i64 av)) (fun _ hk => hk.2) (.slice aK aq.length aM)) (fun _ hk => trivial), by (with_reducible repeat (first | apply Kd.R_alloc | apply Kd.R_drewN | apply Kd.R_drew)); exact Kd.R_mono (Kd.R_far (p := ⟨au, 1, none⟩) (Kd.R_far (p := ⟨au, 0, none⟩) (Kd.R_types fw.out ah.out (by decide)) (fun _ hk => hk.2) (.int .i64 av)) (fun _ hk => hk.2) (.slice aK aq.length aM)) (fun _ hk => trivial), by repeat (first | (with_reducible first | exact HB.out | apply zB | apply zC | apply zE | refine zS ?_ aG.out | refine zS ?_ aH.out | refine zS ?_ a8.out | refine zS ?_ bO.out) | exact HB.out)⟩
           ·rw [if_neg eW] at H
            have fr : decide (bB < 0) = false := decide_eq_false eW
            clear eW; replace H := Option.bind_eq_some_iff.mp H
            obtain ⟨⟨bx, bz⟩, fx, H⟩ := H
            replace H : (if bV.length < 5864062014805 then (spec_TakeBag.l0 k2 a1 (bV ++ [(⟨(rd_T30 (rd_L2 aa ac) (ak)).f0, ac, bB⟩ : S78)]) ac av aq bx bz) else (none)) = some (r1, r2, r3, r4) := H
            have A79 := zK fx; clear fx
            by_cases c80 : bV.length < 5864062014805
            ·rw [if_pos c80] at H
             have fy := zK c80; clear c80
             obtain ⟨fz, cI⟩ : ∃ y_ : List (S78), y_ = (bV ++ [(⟨(rd_T30 (rd_L2 aa ac) (ak)).f0, ac, bB⟩ : S78)]) := ⟨_, rfl⟩
             replace H : (spec_TakeBag.l0 k2 a1 fz ac av aq bx bz) = some (r1, r2, r3, r4) := by first | (rw [cI]; with_reducible exact H) | (have H2_ := (Option.bind_some _ _).symm.trans H; rw [cI]; with_reducible exact H2_) | (have H2_ := (Option.bind_some _ _).symm.trans H; with_reducible exact H2_) | with_reducible exact H | (rw [cI]; exact H) | exact H
             have Ny818 := zK cI; clear cI; have H' := zK H; clear H
             try go_wp2
             have aV := zK (Kd.R_drew aw.out)
             have aW := zK (Kd.S_drew ad.out)
             have aX := zK (Kd.S_drew ab.out)
             have aY := zK (zD af.out)
             have a5 := zK (zD ah.out)
             have bj := zK (zD ag.out)
             have bm := zK (zE HB.out)
             clear aw ad ab af ah ag HB; have aw := aV; have ad := aW; have ab := aX; have af := aY; have ah := a5; have ag := bj; have HB := bm; clear aV aW aX aY a5 bj bm
             obtain ⟨Ao82, bZ, fA⟩ := Kd.S_slice ab.out
             (first | subst fA | (injection fA with f1_ f2_ f3_; have f4_ := f1_.symm; have f5_ := f3_.symm; clear f1_ f2_ f3_; subst f4_; subst f5_))
             have b0 : 0 ≤ (ac : Int) := of_decide_eq_true (by first | (with_reducible assumption) | assumption)
             have b1 : ac < (aa.length : Int) := of_decide_eq_true (by first | (with_reducible assumption) | assumption)
             obtain ⟨aC, dy, bH, dz, aI, bq, br⟩ := at_L2 (Kd.S_reads' ab.out).2.2 ac b0 b1
             cases dz
             obtain ⟨es, ch, ci, bI⟩ := Kd.S_get ab.out [] ac b0 (by first | exact b1 | exact of_decide_eq_true (by first | (with_reducible assumption) | assumption) | (have e_ := (Kd.S_reads' ab.out).1; omega))
             obtain ⟨di, rfl, a9⟩ := ci
             have aN := bI 0 _ rfl
             rw [Nat.add_zero, show ((Kd.slice 30 k30)).sz = 1 from rfl, Nat.mul_one] at aN
             replace aN := Option.some.inj (aN.symm.trans aI)
             rw [aN] at a9
             have an := zK (show Kd.R k30 30 _ _ _ _ (rd_L2 aa ac) from a9)
             clear aN a9; have b2 := zK aI; clear bI ch; have am := zK br; have dj := zK bq; clear br bq; replace b0 := eq_true b0; replace b1 := eq_true b1
             have b3 : 0 ≤ (ac : Int) := of_decide_eq_true (by first | (with_reducible assumption) | assumption)
             have b4 : ac < (aa.length : Int) := of_decide_eq_true (by first | (with_reducible assumption) | assumption)
             obtain ⟨cG, dA, dB, dC, aJ, bs, bu⟩ := at_L2 (Kd.S_reads' ab.out).2.2 ac b3 b4
             obtain rfl : aC = cG := (by injection dC)
             obtain ⟨et, cj, ck, bJ⟩ := Kd.S_get ab.out [] ac b3 (by first | exact b4 | exact of_decide_eq_true (by first | (with_reducible assumption) | assumption) | (have e_ := (Kd.S_reads' ab.out).1; omega))
             obtain ⟨dk, rfl, ba⟩ := ck
             have aQ := bJ 0 _ rfl
             rw [Nat.add_zero, show ((Kd.slice 30 k30)).sz = 1 from rfl, Nat.mul_one] at aQ
             replace aQ := Option.some.inj (aQ.symm.trans aJ)
             rw [aQ] at ba
             have ao := zK (show Kd.R k30 30 _ _ _ _ (rd_L2 aa ac) from ba)
             clear aQ ba; have b5 := zK aJ; clear bJ cj; have ap := zK bu; have dl := zK bs; clear bu bs; replace b3 := eq_true b3; replace b4 := eq_true b4
             have ea_ := Option.some.inj (aI.symm.trans aJ)
             injection ea_ with ea_ en_ ec_
             subst ea_; subst ec_; clear en_
             have cl : 0 ≤ ((ak) : Int) := of_decide_eq_true (by first | (with_reducible assumption) | assumption)
             have cm : (ak) < ((rd_L2 aa ac).length : Int) := of_decide_eq_true (by first | (with_reducible assumption) | assumption)
             obtain ⟨bi, dD, bv, bw⟩ := at_T30 (by repeat (first | (with_reducible exact am.out) | (with_reducible refine Kd.C_alloc ?_ _) | (with_reducible refine Kd.C_drewN ?_ _) | (with_reducible refine Kd.C_drew ?_) | exact am.out)) (ak) cl cm
             cases dD
             replace cl := eq_true cl; replace cm := eq_true cm
             refine start_ (n := 17) (S := fun w' => w'.cell? ⟨al, 0, none⟩ = some (.int .i64 ai) ∧ w'.cell? ⟨al, 1, none⟩ = some (.slice (some aC) aa.length bZ) ∧ w'.cell? (aC.add (ac).toNat) = some (.slice (some bi) (rd_L2 aa ac).length bH) ∧ w'.cell? (aC.add (ac).toNat) = some (.slice (some bi) (rd_L2 aa ac).length bH) ∧ w'.cell? (bi.add (((ak)).toNat * 2)) = some (.int .i64 ((rd_T30 (rd_L2 aa ac) (ak)).f0)) ∧ w'.cell? ⟨(bi.add (((ak)).toNat * 2)).block, (bi.add (((ak)).toNat * 2)).off + 1, none⟩ = some (.int .i64 ((rd_T30 (rd_L2 aa ac) (ak)).f1))) (ds := []) #[ff, ff, ff, ff, ff, ff, ff, ff, ff, ff, ff, ff, ff, ff, ff, ff, ff] (by kernel_rfl) rfl rfl ⟨(blk_cell ag.out 0).trans rfl, (blk_cell ag.out 1).trans rfl, aI, aJ, bv, bw⟩ (fun hHeld => ?_); refine with_tabW spec_TakeBag.tab7 spec_TakeBag.bits7 (fun HT_ HW_ => ?_)
             generalize wr.drew = w81 at aw ad ab af ah ag HB an ao am ap b2 b5 aI aJ bv bw hHeld ⊢
             refine zu 0 (some 29) #[tt, ff, ff, ff, ff, ff, ff, ff, ff, ff, ff, ff, ff, ff, ff, ff, ff] (any_of HT_.out (by kernel_rfl)) ?_
             refine zu 2 (some 31) #[tt, ff, tt, ff, ff, ff, ff, ff, ff, ff, ff, ff, ff, ff, ff, ff, ff] (any_of HT_.out (by kernel_rfl)) ?_
             refine zu 5 (some 34) #[tt, ff, tt, ff, ff, tt, ff, ff, ff, ff, ff, ff, ff, ff, ff, ff, ff] (any_of HT_.out (by kernel_rfl)) ?_
             refine zu 7 (some 36) #[tt, ff, tt, ff, ff, tt, ff, tt, ff, ff, ff, ff, ff, ff, ff, ff, ff] (any_of HT_.out (by kernel_rfl)) ?_
             refine zu 15 (some 44) #[tt, ff, tt, ff, ff, tt, ff, tt, ff, ff, ff, ff, ff, ff, ff, tt, ff] (any_of HT_.out (by kernel_rfl)) ?_
             refine zt 1 (some 30) #[tt, tt, tt, ff, ff, tt, ff, tt, ff, ff, ff, ff, ff, ff, ff, tt, ff] (take_ofW HT_.out HW_.out (by kernel_rfl)) hHeld ?_
             refine zu 3 (some 32) #[tt, tt, tt, tt, ff, tt, ff, tt, ff, ff, ff, ff, ff, ff, ff, tt, ff] (any_of HT_.out (by kernel_rfl)) ?_
             refine zt 4 (some 33) #[tt, tt, tt, tt, tt, tt, ff, tt, ff, ff, ff, ff, ff, ff, ff, tt, ff] (take_ofW HT_.out HW_.out (by kernel_rfl)) hHeld ?_
             refine zt 6 (some 35) #[tt, tt, tt, tt, tt, tt, tt, tt, ff, ff, ff, ff, ff, ff, ff, tt, ff] (take_ofW HT_.out HW_.out (by kernel_rfl)) hHeld ?_
             refine zu 8 (some 37) #[tt, tt, tt, tt, tt, tt, tt, tt, tt, ff, ff, ff, ff, ff, ff, tt, ff] (any_of HT_.out (by kernel_rfl)) ?_
             refine zt 9 (some 38) #[tt, tt, tt, tt, tt, tt, tt, tt, tt, tt, ff, ff, ff, ff, ff, tt, ff] (take_ofW HT_.out HW_.out (by kernel_rfl)) hHeld ?_
             refine zu 10 (some 39) #[tt, tt, tt, tt, tt, tt, tt, tt, tt, tt, tt, ff, ff, ff, ff, tt, ff] (any_of HT_.out (by kernel_rfl)) ?_
             refine zu 11 (some 40) #[tt, tt, tt, tt, tt, tt, tt, tt, tt, tt, tt, tt, ff, ff, ff, tt, ff] (any_of HT_.out (by kernel_rfl)) ?_
             refine zu 12 (some 41) #[tt, tt, tt, tt, tt, tt, tt, tt, tt, tt, tt, tt, tt, ff, ff, tt, ff] (any_of HT_.out (by kernel_rfl)) ?_
             refine zu 13 (some 42) #[tt, tt, tt, tt, tt, tt, tt, tt, tt, tt, tt, tt, tt, tt, ff, tt, ff] (any_of HT_.out (by kernel_rfl)) ?_
             refine zt 14 (some 43) #[tt, tt, tt, tt, tt, tt, tt, tt, tt, tt, tt, tt, tt, tt, tt, tt, ff] (take_ofW HT_.out HW_.out (by kernel_rfl)) hHeld ?_
             refine zu 16 (some 45) #[tt, tt, tt, tt, tt, tt, tt, tt, tt, tt, tt, tt, tt, tt, tt, tt, tt] (any_of HT_.out (by kernel_rfl)) ?_
             refine done_ (done_of HT_.out (by kernel_rfl)) ?_
             try go_wp2
             have aV := zK (Kd.R_drew aw.out)
             have aW := zK (Kd.S_drew ad.out)
             have aX := zK (Kd.S_drew ab.out)
             have aY := zK (Kd.R_drew an.out)
             have a5 := zK (Kd.R_drew ao.out)
             have bj := zK (zD af.out)
             have bm := zK (zD ah.out)
             have bW := zK (zD ag.out)
             have bX := zK (Kd.C_drew am.out)
             have bY := zK (Kd.C_drew ap.out)
             have a4 := zK (zE HB.out)
             clear aw ad ab an ao af ah ag am ap HB; have aw := aV; have ad := aW; have ab := aX; have an := aY; have ao := a5; have af := bj; have ah := bm; have ag := bW; have am := bX; have ap := bY; have HB := a4; clear aV aW aX aY a5 bj bm bW bX bY a4
             have cy : 0 ≤ (ac : Int) := of_decide_eq_true (by first | (with_reducible assumption) | assumption)
             have cz : ac < (aa.length : Int) := of_decide_eq_true (by first | (with_reducible assumption) | assumption)
             obtain ⟨dJ, eL, cn, eM, bb, b8, b9⟩ := at_L2 (Kd.S_reads' ab.out).2.2 ac cy cz
             obtain rfl : aC = dJ := (by injection eM)
             obtain ⟨ft, cM, cN, co⟩ := Kd.S_get ab.out [] ac cy (by first | exact cz | exact of_decide_eq_true (by first | (with_reducible assumption) | assumption) | (have e_ := (Kd.S_reads' ab.out).1; omega))
             obtain ⟨em, rfl, bC⟩ := cN
             have bc := co 0 _ rfl
             rw [Nat.add_zero, show ((Kd.slice 30 k30)).sz = 1 from rfl, Nat.mul_one] at bc
             replace bc := Option.some.inj (bc.symm.trans bb)
             rw [bc] at bC
             have aj := zK (show Kd.R k30 30 _ _ _ _ (rd_L2 aa ac) from bC)
             clear bc bC; have bk := zK bb; clear co cM; have ay := zK b9; have en := zK b8; clear b9 b8; replace cy := eq_true cy; replace cz := eq_true cz
             have cA : 0 ≤ (ac : Int) := of_decide_eq_true (by first | (with_reducible assumption) | assumption)
             have cB : ac < (aa.length : Int) := of_decide_eq_true (by first | (with_reducible assumption) | assumption)
             obtain ⟨dK, eN, eO, eP, bd, ca, cb⟩ := at_L2 (Kd.S_reads' ab.out).2.2 ac cA cB
             obtain rfl : aC = dK := (by injection eP)
             obtain ⟨fu, cO, cP, cp⟩ := Kd.S_get ab.out [] ac cA (by first | exact cB | exact of_decide_eq_true (by first | (with_reducible assumption) | assumption) | (have e_ := (Kd.S_reads' ab.out).1; omega))
             obtain ⟨eo, rfl, bD⟩ := cP
             have be := cp 0 _ rfl
             rw [Nat.add_zero, show ((Kd.slice 30 k30)).sz = 1 from rfl, Nat.mul_one] at be
             replace be := Option.some.inj (be.symm.trans bd)
             rw [be] at bD
             have az := zK (show Kd.R k30 30 _ _ _ _ (rd_L2 aa ac) from bD)
             clear be bD; have bl := zK bd; clear cp cO; have aE := zK cb; have ep := zK ca; clear cb ca; replace cA := eq_true cA; replace cB := eq_true cB
             have ea_ := Option.some.inj (bb.symm.trans bd)
             injection ea_ with ea_ en_ ec_
             subst ea_; subst ec_; clear en_
             have cQ : 0 ≤ ((ak) : Int) := of_decide_eq_true (by first | (with_reducible assumption) | assumption)
             have cR : (ak) < ((rd_L2 aa ac).length : Int) := of_decide_eq_true (by first | (with_reducible assumption) | assumption)
             obtain ⟨bK, eQ, cc, cd⟩ := at_T30 (by repeat (first | (with_reducible exact ay.out) | (with_reducible refine Kd.C_alloc ?_ _) | (with_reducible refine Kd.C_drewN ?_ _) | (with_reducible refine Kd.C_drew ?_) | exact ay.out)) (ak) cQ cR
             cases eQ
             replace cQ := eq_true cQ; replace cR := eq_true cR
             refine start_ (n := 16) (S := fun w' => w'.cell? ⟨al, 0, none⟩ = some (.int .i64 ai) ∧ w'.cell? ⟨al, 1, none⟩ = some (.slice (some aC) aa.length bZ) ∧ w'.cell? (aC.add (ac).toNat) = some (.slice (some bK) (rd_L2 aa ac).length cn) ∧ w'.cell? (aC.add (ac).toNat) = some (.slice (some bK) (rd_L2 aa ac).length cn) ∧ w'.cell? (bK.add (((ak)).toNat * 2)) = some (.int .i64 ((rd_T30 (rd_L2 aa ac) (ak)).f0)) ∧ w'.cell? ⟨(bK.add (((ak)).toNat * 2)).block, (bK.add (((ak)).toNat * 2)).off + 1, none⟩ = some (.int .i64 ((rd_T30 (rd_L2 aa ac) (ak)).f1))) (ds := []) #[ff, ff, ff, ff, ff, ff, ff, ff, ff, ff, ff, ff, ff, ff, ff, ff] (by kernel_rfl) rfl rfl ⟨(blk_cell ag.out 0).trans rfl, (blk_cell ag.out 1).trans rfl, bb, bd, cc, cd⟩ (fun hHeld => ?_); refine with_tabW spec_TakeBag.tab8 spec_TakeBag.bits8 (fun HT_ HW_ => ?_)
             generalize w81.drew = w83 at aw ad ab an ao af ah ag am ap HB aj az ay aE bk bl bb bd cc cd hHeld ⊢
             refine zu 0 (some 46) #[tt, ff, ff, ff, ff, ff, ff, ff, ff, ff, ff, ff, ff, ff, ff, ff] (any_of HT_.out (by kernel_rfl)) ?_
             refine zu 2 (some 48) #[tt, ff, tt, ff, ff, ff, ff, ff, ff, ff, ff, ff, ff, ff, ff, ff] (any_of HT_.out (by kernel_rfl)) ?_
             refine zu 5 (some 51) #[tt, ff, tt, ff, ff, tt, ff, ff, ff, ff, ff, ff, ff, ff, ff, ff] (any_of HT_.out (by kernel_rfl)) ?_
             refine zu 7 (some 53) #[tt, ff, tt, ff, ff, tt, ff, tt, ff, ff, ff, ff, ff, ff, ff, ff] (any_of HT_.out (by kernel_rfl)) ?_
             refine zt 1 (some 47) #[tt, tt, tt, ff, ff, tt, ff, tt, ff, ff, ff, ff, ff, ff, ff, ff] (take_ofW HT_.out HW_.out (by kernel_rfl)) hHeld ?_
             refine zu 3 (some 49) #[tt, tt, tt, tt, ff, tt, ff, tt, ff, ff, ff, ff, ff, ff, ff, ff] (any_of HT_.out (by kernel_rfl)) ?_
             refine zt 4 (some 50) #[tt, tt, tt, tt, tt, tt, ff, tt, ff, ff, ff, ff, ff, ff, ff, ff] (take_ofW HT_.out HW_.out (by kernel_rfl)) hHeld ?_
             refine zt 6 (some 52) #[tt, tt, tt, tt, tt, tt, tt, tt, ff, ff, ff, ff, ff, ff, ff, ff] (take_ofW HT_.out HW_.out (by kernel_rfl)) hHeld ?_
             refine zu 8 (some 54) #[tt, tt, tt, tt, tt, tt, tt, tt, tt, ff, ff, ff, ff, ff, ff, ff] (any_of HT_.out (by kernel_rfl)) ?_
             refine zt 9 (some 55) #[tt, tt, tt, tt, tt, tt, tt, tt, tt, tt, ff, ff, ff, ff, ff, ff] (take_ofW HT_.out HW_.out (by kernel_rfl)) hHeld ?_
             refine zu 10 (some 56) #[tt, tt, tt, tt, tt, tt, tt, tt, tt, tt, tt, ff, ff, ff, ff, ff] (any_of HT_.out (by kernel_rfl)) ?_
             refine zu 11 (some 57) #[tt, tt, tt, tt, tt, tt, tt, tt, tt, tt, tt, tt, ff, ff, ff, ff] (any_of HT_.out (by kernel_rfl)) ?_
             refine zu 12 (some 58) #[tt, tt, tt, tt, tt, tt, tt, tt, tt, tt, tt, tt, tt, ff, ff, ff] (any_of HT_.out (by kernel_rfl)) ?_
             refine zt 13 (some 59) #[tt, tt, tt, tt, tt, tt, tt, tt, tt, tt, tt, tt, tt, tt, ff, ff] (take_ofW HT_.out HW_.out (by kernel_rfl)) hHeld ?_
             refine one_ (i := 14) (N := some 10) #[tt, tt, tt, tt, tt, tt, tt, tt, tt, tt, tt, tt, tt, tt, tt, ff] rfl rfl (one_of HT_.out (by kernel_rfl)) (by decide) (fun K hK => ?_)
             refine box_step ?hg (N := 10) ?hd (cs := #[.int .i64 0, .int .i64 0]) (t := 30) ?hr ?_; (case hd => rfl); (case hg => rfl); (case hr => first | (go_simp; done) | (go_simp; rfl))
             intro ae hg eY hbox hb
             have eR := (hb.cell (World.block_lt_of_cell? _ _ (hHeld.2.2.1))).trans (hHeld.2.2.1)
             have eS := (hb.cell (World.block_lt_of_cell? _ _ (hHeld.2.2.2.1))).trans (hHeld.2.2.2.1)
             have eT := (hb.cell (World.block_lt_of_cell? _ _ (hHeld.2.2.2.2.1))).trans (hHeld.2.2.2.2.1)
             have eU := (hb.cell (World.block_lt_of_cell? _ _ (hHeld.2.2.2.2.2))).trans (hHeld.2.2.2.2.2)
             have aV := zK (Kd.R_below (zR aw) hb)
             have aW := zK (Kd.S_below (Kd.S_elderB (zT ad) ae (Nat.le_of_eq hg.symm)) hb)
             have aX := zK (Kd.S_below (Kd.S_elderB (zT ab) ae (Nat.le_of_eq hg.symm)) hb)
             have aY := zK (Kd.R_below (Kd.R_elderB (zR an) ae (Nat.le_of_eq hg.symm)) hb)
             have a5 := zK (Kd.R_below (Kd.R_elderB (zR ao) ae (Nat.le_of_eq hg.symm)) hb)
             have bj := zK (Kd.R_below (Kd.R_elderB (zR aj) ae (Nat.le_of_eq hg.symm)) hb)
             have bm := zK (Kd.R_below (Kd.R_elderB (zR az) ae (Nat.le_of_eq hg.symm)) hb)
             have bW := zK (blk_below (g := ar) (o := .cells #[.int .i64 av, .slice aK aq.length aM] 24 (0, 0)) (zk af) hb)
             have bX := zK (blk_below (g := au) (o := .cells #[.int .i64 ax, .slice none 0 0] 24 (0, 0)) (zk ah) hb)
             have bY := zK (blk_below (g := al) (o := .cells #[.int .i64 ai, .slice (some aC) aa.length bZ] 24 (0, 0)) (zk ag) hb)
             have a4 := zK (Kd.C_below (by repeat (first | (with_reducible exact am.out) | (with_reducible refine Kd.C_alloc ?_ _) | (with_reducible refine Kd.C_drewN ?_ _) | (with_reducible refine Kd.C_drew ?_) | exact am.out)) hb)
             have bn := zK (Kd.C_below (by repeat (first | (with_reducible exact ap.out) | (with_reducible refine Kd.C_alloc ?_ _) | (with_reducible refine Kd.C_drewN ?_ _) | (with_reducible refine Kd.C_drew ?_) | exact ap.out)) hb)
             have bo := zK (Kd.C_below (by repeat (first | (with_reducible exact ay.out) | (with_reducible refine Kd.C_alloc ?_ _) | (with_reducible refine Kd.C_drewN ?_ _) | (with_reducible refine Kd.C_drew ?_) | exact ay.out)) hb)
             have bL := zK (pw_cell_below hb bk.out)
             have bM := zK (Kd.C_below (by repeat (first | (with_reducible exact aE.out) | (with_reducible refine Kd.C_alloc ?_ _) | (with_reducible refine Kd.C_drewN ?_ _) | (with_reducible refine Kd.C_drew ?_) | exact aE.out)) hb)
             have bN := zK (pw_cell_below hb bl.out)
             have cq := zK (below_step (zb HB) hb)
             have dL := zK (hbox)
             have dM := zK ((by rw [hg]; exact (below_size (zb HB)) : w.heap.size ≤ ae))
             have dN := zK ((by rw [hg]; exact (below_size (zb HB)) : w.heap.size ≤ ae))
             have dO := zK ((by rw [hg]; exact Nat.ne_of_lt (blk_lt (g := ar) (o := .cells #[.int .i64 av, .slice aK aq.length aM] 24 (0, 0)) (zk af)) : ar ≠ ae))
             have dP := zK ((by rw [hg]; exact Nat.ne_of_gt (blk_lt (g := ar) (o := .cells #[.int .i64 av, .slice aK aq.length aM] 24 (0, 0)) (zk af)) : ae ≠ ar))
             have dQ := zK ((by rw [hg]; exact Nat.ne_of_lt (blk_lt (g := au) (o := .cells #[.int .i64 ax, .slice none 0 0] 24 (0, 0)) (zk ah)) : au ≠ ae))
             have dR := zK ((by rw [hg]; exact Nat.ne_of_gt (blk_lt (g := au) (o := .cells #[.int .i64 ax, .slice none 0 0] 24 (0, 0)) (zk ah)) : ae ≠ au))
             have dS := zK ((by rw [hg]; exact Nat.ne_of_lt (blk_lt (g := al) (o := .cells #[.int .i64 ai, .slice (some aC) aa.length bZ] 24 (0, 0)) (zk ag)) : al ≠ ae))
             have dT := zK ((by rw [hg]; exact Nat.ne_of_gt (blk_lt (g := al) (o := .cells #[.int .i64 ai, .slice (some aC) aa.length bZ] 24 (0, 0)) (zk ag)) : ae ≠ al))
             clear aw ad ab an ao aj az af ah ag am ap ay bk aE bl HB; have aw := aV; have ad := aW; have ab := aX; have an := aY; have ao := a5; have aj := bj; have az := bm; have af := bW; have ah := bX; have ag := bY; have am := a4; have ap := bn; have ay := bo; have bk := bL; have aE := bM; have bl := bN; have HB := cq; have aD := dL; have fv := dM; have bO := dN; have aR := dO; have bg := dP; have aT := dQ; have bh := dR; have aA := dS; have a0 := dT; clear aV aW aX aY a5 bj bm bW bX bY a4 bn bo bL bM bN cq dL dM dN dO dP dQ dR dS dT hb hbox hg
             refine hK.out _ _ ⟨(blk_cell ag.out 0).trans rfl, (blk_cell ag.out 1).trans rfl, eR, eS, eT, eU⟩ (fun hHeld => ?_)
             clear hK K
             refine norm_ (a' := ?_) ?_ ?_
             rotate_left
             ·show Act.put _ (some 10) _ = _
              simp only [Act.put, zp, zq, zr, i64_w, i32_w]
              rfl
             refine one_ (i := 15) (N := none) #[tt, tt, tt, tt, tt, tt, tt, tt, tt, tt, tt, tt, tt, tt, tt, tt] rfl rfl (one_of HT_.out (by kernel_rfl)) (by decide) (fun K hK => ?_)
             have hs85 : eY.cell? ⟨ae, 0, none⟩ = some (.int .i64 0) := (blk_cell aD.out 0).trans rfl
             have hfs85 := blk_frozen aD.out 0; have hns85_0 := aR.out; have hns85_1 := aT.out; have hns85_2 := aA.out; have hms85_0 := bg.out; have hms85_1 := bh.out; have hms85_2 := a0.out
             have hs86 : eY.cell? ⟨ae, 1, none⟩ = some (.int .i64 0) := (blk_cell aD.out 1).trans rfl
             have hfs86 := blk_frozen aD.out 1; have hns86_0 := aR.out; have hns86_1 := aT.out; have hns86_2 := aA.out; have hms86_0 := bg.out; have hms86_1 := bh.out; have hms86_2 := a0.out
             refine skip_ (w1 := ?_) (by rfl) rfl ?_ ?_
             rotate_left
             ·go_simp
              rfl
             refine hK.out _ _ ⟨((cell_far (p := ⟨ae, _, none⟩) aA.out _).trans (((cell_far (p := ⟨ae, _, none⟩) aA.out _).trans (hHeld.1)))), ((cell_far (p := ⟨ae, _, none⟩) aA.out _).trans (((cell_far (p := ⟨ae, _, none⟩) aA.out _).trans (hHeld.2.1)))), ((cell_far (p := ⟨ae, _, none⟩) (by first | exact Kd.own_blk (Kd.S_away ab.out (fun _ hk => hk.2)) | (rw [add_block]; exact Kd.own_blk (Kd.S_away ab.out (fun _ hk => hk.2))) | (show (Addr.add _ _).block ≠ _; rw [add_block]; exact Kd.own_blk (Kd.S_away ab.out (fun _ hk => hk.2))) | (dsimp only; exact Kd.own_blk (Kd.S_away ab.out (fun _ hk => hk.2)))) _).trans (((cell_far (p := ⟨ae, _, none⟩) (by first | exact Kd.own_blk (Kd.S_away ab.out (fun _ hk => hk.2)) | (rw [add_block]; exact Kd.own_blk (Kd.S_away ab.out (fun _ hk => hk.2))) | (show (Addr.add _ _).block ≠ _; rw [add_block]; exact Kd.own_blk (Kd.S_away ab.out (fun _ hk => hk.2))) | (dsimp only; exact Kd.own_blk (Kd.S_away ab.out (fun _ hk => hk.2)))) _).trans (hHeld.2.2.1)))), ((cell_far (p := ⟨ae, _, none⟩) (by first | exact Kd.own_blk (Kd.S_away ab.out (fun _ hk => hk.2)) | (rw [add_block]; exact Kd.own_blk (Kd.S_away ab.out (fun _ hk => hk.2))) | (show (Addr.add _ _).block ≠ _; rw [add_block]; exact Kd.own_blk (Kd.S_away ab.out (fun _ hk => hk.2))) | (dsimp only; exact Kd.own_blk (Kd.S_away ab.out (fun _ hk => hk.2)))) _).trans (((cell_far (p := ⟨ae, _, none⟩) (by first | exact Kd.own_blk (Kd.S_away ab.out (fun _ hk => hk.2)) | (rw [add_block]; exact Kd.own_blk (Kd.S_away ab.out (fun _ hk => hk.2))) | (show (Addr.add _ _).block ≠ _; rw [add_block]; exact Kd.own_blk (Kd.S_away ab.out (fun _ hk => hk.2))) | (dsimp only; exact Kd.own_blk (Kd.S_away ab.out (fun _ hk => hk.2)))) _).trans (hHeld.2.2.2.1)))), ((cell_far (p := ⟨ae, _, none⟩) (by first | exact Kd.own_blk (Kd.R_away aj.out (fun _ hk => hk.2)) | (rw [add_block]; exact Kd.own_blk (Kd.R_away aj.out (fun _ hk => hk.2))) | (show (Addr.add _ _).block ≠ _; rw [add_block]; exact Kd.own_blk (Kd.R_away aj.out (fun _ hk => hk.2))) | (dsimp only; exact Kd.own_blk (Kd.R_away aj.out (fun _ hk => hk.2)))) _).trans (((cell_far (p := ⟨ae, _, none⟩) (by first | exact Kd.own_blk (Kd.R_away aj.out (fun _ hk => hk.2)) | (rw [add_block]; exact Kd.own_blk (Kd.R_away aj.out (fun _ hk => hk.2))) | (show (Addr.add _ _).block ≠ _; rw [add_block]; exact Kd.own_blk (Kd.R_away aj.out (fun _ hk => hk.2))) | (dsimp only; exact Kd.own_blk (Kd.R_away aj.out (fun _ hk => hk.2)))) _).trans (hHeld.2.2.2.2.1)))), ((cell_far (p := ⟨ae, _, none⟩) (by first | exact Kd.own_blk (Kd.R_away aj.out (fun _ hk => hk.2)) | (rw [add_block]; exact Kd.own_blk (Kd.R_away aj.out (fun _ hk => hk.2))) | (show (Addr.add _ _).block ≠ _; rw [add_block]; exact Kd.own_blk (Kd.R_away aj.out (fun _ hk => hk.2))) | (dsimp only; exact Kd.own_blk (Kd.R_away aj.out (fun _ hk => hk.2)))) _).trans (((cell_far (p := ⟨ae, _, none⟩) (by first | exact Kd.own_blk (Kd.R_away aj.out (fun _ hk => hk.2)) | (rw [add_block]; exact Kd.own_blk (Kd.R_away aj.out (fun _ hk => hk.2))) | (show (Addr.add _ _).block ≠ _; rw [add_block]; exact Kd.own_blk (Kd.R_away aj.out (fun _ hk => hk.2))) | (dsimp only; exact Kd.own_blk (Kd.R_away aj.out (fun _ hk => hk.2)))) _).trans (hHeld.2.2.2.2.2))))⟩ (fun hHeld => ?_)
             clear hK K
             refine done_ (done_of HT_.out (by kernel_rfl)) ?_
             have hnb87 := bR.out; have hnc87 := a6.out; have hnb88 := bS.out; have hnc88 := a7.out; have hnb89 := aA.out; have hnc89 := a0.out
             have hcz90_0 : eY.cell? ⟨al, 0, none⟩ = some (.int .i64 ai) := (blk_cell ag.out 0).trans rfl
             have hcz90_1 : eY.cell? ⟨al, 1, none⟩ = some (.slice (some aC) aa.length bZ) := (blk_cell ag.out 1).trans rfl
             have hfz90_0 := blk_frozen ag.out 0; have hfz90_1 := blk_frozen ag.out 1; have hnb91 := bg.out; have hnc91 := aR.out; have hnb92 := bh.out; have hnc92 := aT.out
             have hcz93_0 : eY.cell? ⟨ae, 0, none⟩ = some (.int .i64 0) := (blk_cell aD.out 0).trans rfl
             have hcz93_1 : eY.cell? ⟨ae, 1, none⟩ = some (.int .i64 0) := (blk_cell aD.out 1).trans rfl
             have hfz93_0 := blk_frozen aD.out 0; have hfz93_1 := blk_frozen aD.out 1
             try go_wp2_with (first | ((with_reducible refine gate_callee (f := 26) rfl ?_); refine goesL_ (some 64) rfl rfl Try.func26 (by kernel_rfl) rfl #[.agg #[.int .i64 ai, .slice (some aC) aa.length bZ], .int .i64 ((rd_T30 (rd_L2 aa ac) (ak)).f1), .int .i64 ac] rfl (by (try simp only [List.map_toArray, List.map_cons, List.map_nil]); first | done | (simp only [cg]; rfl) | rfl | (simp only [List.length_drop, List.length_take]; rfl)) ?_; (with_reducible refine (spec_LaneFor.calls k2 ai _ _ aa ((rd_T30 (rd_L2 aa ac) (ak)).f1) ac bB _ ?side1 ?side2 A58.out).mono ?_); (case side1 => refine (Kd.S_reads' (e := 28) (base := w.heap.size) (ok := fun k_ => (some k_ ≠ (.slice aK aq.length aM : Value).ownBlock ∧ k_ ≠ ae)) (n := aa.length) (c := bZ) ?_).2.2; exact (by (with_reducible repeat (first | apply Kd.S_alloc | apply Kd.S_drewN | apply Kd.S_drew)); exact (Kd.S_mono (Kd.S_far (p := ⟨ae, 1, none⟩) (Kd.S_far (p := ⟨ae, 0, none⟩) (Kd.S_mono ab.out (fun k_ hk => (⟨hk, hk.2⟩ : _ ∧ k_ ≠ ae))) (fun _ hk => hk.2) (.int .i64 ((rd_T30 (rd_L2 aa ac) (ak)).f0))) (fun _ hk => hk.2) (.int .i64 ((rd_T30 (rd_L2 aa ac) (ak)).f1))) (fun _ h_ => h_.1)))); (case side2 => exact (Kd.S_reads' ab.out).2.1); rintro e w94 ⟨rfl, hb⟩; refine ⟨_, rfl, ?_⟩; have aV := zK (Kd.R_below (by (with_reducible repeat (first | apply Kd.R_alloc | apply Kd.R_drewN | apply Kd.R_drew)); exact (Kd.R_mono (Kd.R_far (p := ⟨ae, 1, none⟩) (Kd.R_far (p := ⟨ae, 0, none⟩) (Kd.R_types aw.out aD.out (by decide)) (fun _ hk => hk.2) (.int .i64 ((rd_T30 (rd_L2 aa ac) (ak)).f0))) (fun _ hk => hk.2) (.int .i64 ((rd_T30 (rd_L2 aa ac) (ak)).f1))) (fun _ h_ => h_.1))) hb); have aW := zK (Kd.S_below (by (with_reducible repeat (first | apply Kd.S_alloc | apply Kd.S_drewN | apply Kd.S_drew)); exact (Kd.S_mono (Kd.S_far (p := ⟨ae, 1, none⟩) (Kd.S_far (p := ⟨ae, 0, none⟩) (Kd.S_mono ad.out (fun k_ hk => (⟨hk, hk.2⟩ : _ ∧ k_ ≠ ae))) (fun _ hk => hk.2) (.int .i64 ((rd_T30 (rd_L2 aa ac) (ak)).f0))) (fun _ hk => hk.2) (.int .i64 ((rd_T30 (rd_L2 aa ac) (ak)).f1))) (fun _ h_ => h_.1))) hb); have aX := zK (Kd.S_below (by (with_reducible repeat (first | apply Kd.S_alloc | apply Kd.S_drewN | apply Kd.S_drew)); exact (Kd.S_mono (Kd.S_far (p := ⟨ae, 1, none⟩) (Kd.S_far (p := ⟨ae, 0, none⟩) (Kd.S_mono ab.out (fun k_ hk => (⟨hk, hk.2⟩ : _ ∧ k_ ≠ ae))) (fun _ hk => hk.2) (.int .i64 ((rd_T30 (rd_L2 aa ac) (ak)).f0))) (fun _ hk => hk.2) (.int .i64 ((rd_T30 (rd_L2 aa ac) (ak)).f1))) (fun _ h_ => h_.1))) hb); have aY := zK (Kd.R_below (by (with_reducible repeat (first | apply Kd.R_alloc | apply Kd.R_drewN | apply Kd.R_drew)); exact (Kd.R_mono (Kd.R_far (p := ⟨ae, 1, none⟩) (Kd.R_far (p := ⟨ae, 0, none⟩) (Kd.R_mono an.out (fun k_ hk => (⟨hk, hk.2⟩ : _ ∧ k_ ≠ ae))) (fun _ hk => hk.2) (.int .i64 ((rd_T30 (rd_L2 aa ac) (ak)).f0))) (fun _ hk => hk.2) (.int .i64 ((rd_T30 (rd_L2 aa ac) (ak)).f1))) (fun _ h_ => h_.1))) hb); have a5 := zK (Kd.R_below (by (with_reducible repeat (first | apply Kd.R_alloc | apply Kd.R_drewN | apply Kd.R_drew)); exact (Kd.R_mono (Kd.R_far (p := ⟨ae, 1, none⟩) (Kd.R_far (p := ⟨ae, 0, none⟩) (Kd.R_mono ao.out (fun k_ hk => (⟨hk, hk.2⟩ : _ ∧ k_ ≠ ae))) (fun _ hk => hk.2) (.int .i64 ((rd_T30 (rd_L2 aa ac) (ak)).f0))) (fun _ hk => hk.2) (.int .i64 ((rd_T30 (rd_L2 aa ac) (ak)).f1))) (fun _ h_ => h_.1))) hb); have bj := zK (Kd.R_below (by (with_reducible repeat (first | apply Kd.R_alloc | apply Kd.R_drewN | apply Kd.R_drew)); exact (Kd.R_mono (Kd.R_far (p := ⟨ae, 1, none⟩) (Kd.R_far (p := ⟨ae, 0, none⟩) (Kd.R_mono aj.out (fun k_ hk => (⟨hk, hk.2⟩ : _ ∧ k_ ≠ ae))) (fun _ hk => hk.2) (.int .i64 ((rd_T30 (rd_L2 aa ac) (ak)).f0))) (fun _ hk => hk.2) (.int .i64 ((rd_T30 (rd_L2 aa ac) (ak)).f1))) (fun _ h_ => h_.1))) hb); have bm := zK (Kd.R_below (by (with_reducible repeat (first | apply Kd.R_alloc | apply Kd.R_drewN | apply Kd.R_drew)); exact (Kd.R_mono (Kd.R_far (p := ⟨ae, 1, none⟩) (Kd.R_far (p := ⟨ae, 0, none⟩) (Kd.R_mono az.out (fun k_ hk => (⟨hk, hk.2⟩ : _ ∧ k_ ≠ ae))) (fun _ hk => hk.2) (.int .i64 ((rd_T30 (rd_L2 aa ac) (ak)).f0))) (fun _ hk => hk.2) (.int .i64 ((rd_T30 (rd_L2 aa ac) (ak)).f1))) (fun _ h_ => h_.1))) hb); have bW := zK (blk_below (g := ar) (o := .cells #[.int .i64 av, .slice aK aq.length aM] 24 (0, 0)) (by (with_reducible repeat (first | refine zN ?_ _ | refine zD ?_ | refine zA ?_ _)); refine blk_far ?_ aR.out _; (with_reducible repeat (first | refine zN ?_ _ | refine zD ?_ | refine zA ?_ _)); refine blk_far ?_ aR.out _; (with_reducible repeat (first | refine zN ?_ _ | refine zD ?_ | refine zA ?_ _)); exact af.out) hb); have bX := zK (blk_below (g := au) (o := .cells #[.int .i64 ax, .slice none 0 0] 24 (0, 0)) (by (with_reducible repeat (first | refine zN ?_ _ | refine zD ?_ | refine zA ?_ _)); refine blk_far ?_ aT.out _; (with_reducible repeat (first | refine zN ?_ _ | refine zD ?_ | refine zA ?_ _)); refine blk_far ?_ aT.out _; (with_reducible repeat (first | refine zN ?_ _ | refine zD ?_ | refine zA ?_ _)); exact ah.out) hb); have bY := zK (blk_below (g := al) (o := .cells #[.int .i64 ai, .slice (some aC) aa.length bZ] 24 (0, 0)) (by (with_reducible repeat (first | refine zN ?_ _ | refine zD ?_ | refine zA ?_ _)); refine blk_far ?_ aA.out _; (with_reducible repeat (first | refine zN ?_ _ | refine zD ?_ | refine zA ?_ _)); refine blk_far ?_ aA.out _; (with_reducible repeat (first | refine zN ?_ _ | refine zD ?_ | refine zA ?_ _)); exact ag.out) hb); have a4 := zK (Kd.C_below ((Kd.R_reads' (by (with_reducible repeat (first | apply Kd.R_alloc | apply Kd.R_drewN | apply Kd.R_drew)); exact (Kd.R_mono (Kd.R_far (p := ⟨ae, 1, none⟩) (Kd.R_far (p := ⟨ae, 0, none⟩) (Kd.R_mono an.out (fun k_ hk => (⟨hk, hk.2⟩ : _ ∧ k_ ≠ ae))) (fun _ hk => hk.2) (.int .i64 ((rd_T30 (rd_L2 aa ac) (ak)).f0))) (fun _ hk => hk.2) (.int .i64 ((rd_T30 (rd_L2 aa ac) (ak)).f1))) (fun _ h_ => h_.1)))).2.2) hb); have bn := zK (Kd.C_below ((Kd.R_reads' (by (with_reducible repeat (first | apply Kd.R_alloc | apply Kd.R_drewN | apply Kd.R_drew)); exact (Kd.R_mono (Kd.R_far (p := ⟨ae, 1, none⟩) (Kd.R_far (p := ⟨ae, 0, none⟩) (Kd.R_mono ao.out (fun k_ hk => (⟨hk, hk.2⟩ : _ ∧ k_ ≠ ae))) (fun _ hk => hk.2) (.int .i64 ((rd_T30 (rd_L2 aa ac) (ak)).f0))) (fun _ hk => hk.2) (.int .i64 ((rd_T30 (rd_L2 aa ac) (ak)).f1))) (fun _ h_ => h_.1)))).2.2) hb); have bo := zK (Kd.C_below ((Kd.R_reads' (by (with_reducible repeat (first | apply Kd.R_alloc | apply Kd.R_drewN | apply Kd.R_drew)); exact (Kd.R_mono (Kd.R_far (p := ⟨ae, 1, none⟩) (Kd.R_far (p := ⟨ae, 0, none⟩) (Kd.R_mono aj.out (fun k_ hk => (⟨hk, hk.2⟩ : _ ∧ k_ ≠ ae))) (fun _ hk => hk.2) (.int .i64 ((rd_T30 (rd_L2 aa ac) (ak)).f0))) (fun _ hk => hk.2) (.int .i64 ((rd_T30 (rd_L2 aa ac) (ak)).f1))) (fun _ h_ => h_.1)))).2.2) hb); have bL := zK (Kd.C_below ((Kd.R_reads' (by (with_reducible repeat (first | apply Kd.R_alloc | apply Kd.R_drewN | apply Kd.R_drew)); exact (Kd.R_mono (Kd.R_far (p := ⟨ae, 1, none⟩) (Kd.R_far (p := ⟨ae, 0, none⟩) (Kd.R_mono az.out (fun k_ hk => (⟨hk, hk.2⟩ : _ ∧ k_ ≠ ae))) (fun _ hk => hk.2) (.int .i64 ((rd_T30 (rd_L2 aa ac) (ak)).f0))) (fun _ hk => hk.2) (.int .i64 ((rd_T30 (rd_L2 aa ac) (ak)).f1))) (fun _ h_ => h_.1)))).2.2) hb); have bM := zK (blk_below (g := ae) (o := .cells #[.int .i64 ((rd_T30 (rd_L2 aa ac) (ak)).f0), .int .i64 ((rd_T30 (rd_L2 aa ac) (ak)).f1)] 30 (0, 0)) (by (with_reducible repeat (first | refine zN ?_ _ | refine zD ?_ | refine zA ?_ _)); refine blk_put (cs := #[.int .i64 ((rd_T30 (rd_L2 aa ac) (ak)).f0), .int .i64 0]) ?_ 1 _ rfl; (with_reducible repeat (first | refine zN ?_ _ | refine zD ?_ | refine zA ?_ _)); refine blk_put (cs := #[.int .i64 0, .int .i64 0]) ?_ 0 _ rfl; (with_reducible repeat (first | refine zN ?_ _ | refine zD ?_ | refine zA ?_ _)); exact aD.out) hb); have bN := zK (below_step (zb HB) hb); clear aw; clear ad; clear ab; clear an; clear ao; clear aj; clear az; clear af; clear ah; clear ag; clear am; clear ap; clear ay; clear aE; clear aD; clear HB; have aw := aV; have ad := aW; have ab := aX; have an := aY; have ao := a5; have aj := bj; have az := bm; have af := bW; have ah := bX; have ag := bY; have am := a4; have ap := bn; have ay := bo; have aE := bL; have aD := bM; have HB := bN; clear aV aW aX aY a5 bj bm bW bX bY a4 bn bo bL bM bN; (try clear hb); (try clear hk); have hcz95_0 : w94.cell? ⟨al, 0, none⟩ = some (.int .i64 ai) := (blk_cell ag.out 0).trans rfl; have hcz95_1 : w94.cell? ⟨al, 1, none⟩ = some (.slice (some aC) aa.length bZ) := (blk_cell ag.out 1).trans rfl; have hfz95_0 := blk_frozen ag.out 0; have hfz95_1 := blk_frozen ag.out 1) | ((with_reducible refine gate_callee (f := 76) rfl ?_); refine goesL_ (some 72) rfl rfl Try.func76 (by kernel_rfl) rfl #[.agg #[.int .i64 ai, .slice (some aC) aa.length bZ], .int .i64 ac, .int .i64 bB] rfl (by (try simp only [List.map_toArray, List.map_cons, List.map_nil]); first | done | rfl | (simp only [List.length_drop, List.length_take]; rfl)) ?_; (with_reducible refine (spec_l06Hop.calls k2 ai _ _ aa ac bB bx bz _ ?side1 ?side2 A79.out).mono ?_); (case side1 => repeat (first | exact (Kd.S_reads' ab.out).2.2 | (with_reducible refine Kd.C_alloc ?_ _) | (with_reducible refine Kd.C_drewN ?_ _) | (with_reducible refine Kd.C_drew ?_))); (case side2 => exact (Kd.S_reads' ab.out).2.1); rintro e w96 ⟨v816, rfl, ho0, hb⟩; refine ⟨_, rfl, ?_⟩; have aV := zK (Kd.R_below (zR aw) hb); have aW := zK (Kd.S_elder' (zT ad) (Kd.S_base ho0) hb); have aX := zK (Kd.S_elder' (zT ab) (Kd.S_base ho0) hb); have aY := zK (Kd.R_below (zR an) hb); have a5 := zK (Kd.R_below (zR ao) hb); have bj := zK (Kd.R_below (zR aj) hb); have bm := zK (Kd.R_below (zR az) hb); have bW := zK (Kd.S_lower (Kd.S_newB (Kd.S_new' (Kd.S_new' (Kd.S_new' (Kd.S_new' (Kd.S_new' (Kd.S_new' ho0 (Kd.S_lt (zT ad))) (Kd.S_lt (zT ab))) (Kd.R_lt (zR an))) (Kd.R_lt (zR ao))) (Kd.R_lt (zR aj))) (Kd.R_lt (zR az))) (g := ae) (o := .cells #[.int .i64 ((rd_T30 (rd_L2 aa ac) (ak)).f0), .int .i64 ((rd_T30 (rd_L2 aa ac) (ak)).f1)] 30 (0, 0)) (zk aD)) (below_size (zb HB))); have bX := zK (blk_below (g := ar) (o := .cells #[.int .i64 av, .slice aK aq.length aM] 24 (0, 0)) (zk af) hb); have bY := zK (blk_below (g := au) (o := .cells #[.int .i64 ax, .slice none 0 0] 24 (0, 0)) (zk ah) hb); have a4 := zK (blk_below (g := al) (o := .cells #[.int .i64 ai, .slice (some aC) aa.length bZ] 24 (0, 0)) (zk ag) hb); have bn := zK (Kd.C_below (by repeat (first | (with_reducible exact am.out) | (with_reducible refine Kd.C_alloc ?_ _) | (with_reducible refine Kd.C_drewN ?_ _) | (with_reducible refine Kd.C_drew ?_) | exact am.out)) hb); have bo := zK (Kd.C_below (by repeat (first | (with_reducible exact ap.out) | (with_reducible refine Kd.C_alloc ?_ _) | (with_reducible refine Kd.C_drewN ?_ _) | (with_reducible refine Kd.C_drew ?_) | exact ap.out)) hb); have bL := zK (Kd.C_below (by repeat (first | (with_reducible exact ay.out) | (with_reducible refine Kd.C_alloc ?_ _) | (with_reducible refine Kd.C_drewN ?_ _) | (with_reducible refine Kd.C_drew ?_) | exact ay.out)) hb); have bM := zK (Kd.C_below (by repeat (first | (with_reducible exact aE.out) | (with_reducible refine Kd.C_alloc ?_ _) | (with_reducible refine Kd.C_drewN ?_ _) | (with_reducible refine Kd.C_drew ?_) | exact aE.out)) hb); have bN := zK (blk_below (g := ae) (o := .cells #[.int .i64 ((rd_T30 (rd_L2 aa ac) (ak)).f0), .int .i64 ((rd_T30 (rd_L2 aa ac) (ak)).f1)] 30 (0, 0)) (zk aD) hb); have cq := zK (below_step (zb HB) hb); clear aw; clear ad; clear ab; clear an; clear ao; clear aj; clear az; clear af; clear ah; clear ag; clear am; clear ap; clear ay; clear aE; clear aD; clear HB; have aw := aV; have ad := aW; have ab := aX; have an := aY; have ao := a5; have aj := bj; have az := bm; have cJ := bW; have af := bX; have ah := bY; have ag := a4; have am := bn; have ap := bo; have ay := bL; have aE := bM; have aD := bN; have HB := cq; clear aV aW aX aY a5 bj bm bW bX bY a4 bn bo bL bM bN cq; (try clear hb); (try clear hk); (try clear ho0); have hcz97_0 : w96.cell? ⟨al, 0, none⟩ = some (.int .i64 ai) := (blk_cell ag.out 0).trans rfl; have hcz97_1 : w96.cell? ⟨al, 1, none⟩ = some (.slice (some aC) aa.length bZ) := (blk_cell ag.out 1).trans rfl; have hfz97_0 := blk_frozen ag.out 0; have hfz97_1 := blk_frozen ag.out 1; obtain ⟨bP, bQ, eo98⟩ := Kd.S_slice cJ.out; subst eo98; have hcz99_0 : w96.cell? ⟨ae, 0, none⟩ = some (.int .i64 ((rd_T30 (rd_L2 aa ac) (ak)).f0)) := (blk_cell aD.out 0).trans rfl; have hcz99_1 : w96.cell? ⟨ae, 1, none⟩ = some (.int .i64 ((rd_T30 (rd_L2 aa ac) (ak)).f1)) := (blk_cell aD.out 1).trans rfl; have hfz99_0 := blk_frozen aD.out 0; have hfz99_1 := blk_frozen aD.out 1) | ((with_reducible refine gate_builtin (b := .append) (xs := #[.tmp 73, .tmp 79]) rfl ?_); at_builtin; refine Kd.R_append k78 (w0 := w) w.heap.size rfl (.tmp 73) (.tmp 79) 50 78 (.agg #[(.int .i64 0), (.int .i64 0), (.int .i64 0)]) 24 rfl Try.underlying50 info78 rfl (by decide) (by omega) u7 bV (⟨(rd_T30 (rd_L2 aa ac) (ak)).f0, ac, bB⟩ : S78) [.int .i64 ((rd_T30 (rd_L2 aa ac) (ak)).f0), .int .i64 ac, .int .i64 bB] (fun _ => True) (fun _ => False) rfl (by first | (go_simp; done) | (go_simp; rfl)) ?aP (fun _ hk => hk.elim) ?aF ?aO ?aB ?aS ?aL ?_; (case aP => exact k78_mkM _ _ _ (⟨(rd_T30 (rd_L2 aa ac) (ak)).f0, ac, bB⟩ : S78)); (case aB => exact (zb HB)); (case aF => exact (fun _ _ => trivial)); (case aO => exact (by (with_reducible repeat (first | apply Kd.R_alloc | apply Kd.R_drewN | apply Kd.R_drew)); exact Kd.R_mono (Kd.R_far (p := ⟨al, 1, none⟩) (Kd.R_far (p := ⟨al, 0, none⟩) (Kd.R_types aw.out ag.out (by decide)) (fun _ hk => hk.2) (.int .i64 bx)) (fun _ hk => hk.2) (.slice bP bz.length bQ)) (fun _ hk => trivial))); (case aS => exact (below_size (zb HB))); (case aL => have := fy.out; omega); intro v819 w100 ho hb hg hat; rw [← Ny818.out] at ho; have aV := zK (Kd.S_over' (by (with_reducible repeat (first | apply Kd.S_alloc | apply Kd.S_drewN | apply Kd.S_drew)); exact (Kd.S_mono (Kd.S_far (p := ⟨al, 1, none⟩) (Kd.S_far (p := ⟨al, 0, none⟩) (Kd.S_types ad.out ag.out (by decide)) (fun _ hk => hk.2) (.int .i64 bx)) (fun _ hk => hk.2) (.slice bP bz.length bQ)) (fun _ h_ => h_.1))) (Kd.R_typed (by (with_reducible repeat (first | apply Kd.R_alloc | apply Kd.R_drewN | apply Kd.R_drew)); exact (Kd.R_mono (Kd.R_far (p := ⟨al, 1, none⟩) (Kd.R_far (p := ⟨al, 0, none⟩) (Kd.R_types aw.out ag.out (by decide)) (fun _ hk => hk.2) (.int .i64 bx)) (fun _ hk => hk.2) (.slice bP bz.length bQ)) (fun _ h_ => h_.1)))) (by decide) hg); have aW := zK (Kd.S_over' (by (with_reducible repeat (first | apply Kd.S_alloc | apply Kd.S_drewN | apply Kd.S_drew)); exact (Kd.S_mono (Kd.S_far (p := ⟨al, 1, none⟩) (Kd.S_far (p := ⟨al, 0, none⟩) (Kd.S_types ab.out ag.out (by decide)) (fun _ hk => hk.2) (.int .i64 bx)) (fun _ hk => hk.2) (.slice bP bz.length bQ)) (fun _ h_ => h_.1))) (Kd.R_typed (by (with_reducible repeat (first | apply Kd.R_alloc | apply Kd.R_drewN | apply Kd.R_drew)); exact (Kd.R_mono (Kd.R_far (p := ⟨al, 1, none⟩) (Kd.R_far (p := ⟨al, 0, none⟩) (Kd.R_types aw.out ag.out (by decide)) (fun _ hk => hk.2) (.int .i64 bx)) (fun _ hk => hk.2) (.slice bP bz.length bQ)) (fun _ h_ => h_.1)))) (by decide) hg); have aX := zK (blk_grown (g := ar) (o := .cells #[.int .i64 av, .slice aK aq.length aM] 24 (0, 0)) (by (with_reducible repeat (first | refine zN ?_ _ | refine zD ?_ | refine zA ?_ _)); refine blk_far ?_ a6.out _; (with_reducible repeat (first | refine zN ?_ _ | refine zD ?_ | refine zA ?_ _)); refine blk_far ?_ a6.out _; (with_reducible repeat (first | refine zN ?_ _ | refine zD ?_ | refine zA ?_ _)); exact af.out) hg (Kd.R_ne aw.out af.out (by decide))); have aY := zK (blk_grown (g := au) (o := .cells #[.int .i64 ax, .slice none 0 0] 24 (0, 0)) (by (with_reducible repeat (first | refine zN ?_ _ | refine zD ?_ | refine zA ?_ _)); refine blk_far ?_ a7.out _; (with_reducible repeat (first | refine zN ?_ _ | refine zD ?_ | refine zA ?_ _)); refine blk_far ?_ a7.out _; (with_reducible repeat (first | refine zN ?_ _ | refine zD ?_ | refine zA ?_ _)); exact ah.out) hg (Kd.R_ne aw.out ah.out (by decide))); have a5 := zK (blk_grown (g := al) (o := .cells #[.int .i64 bx, .slice bP bz.length bQ] 24 (0, 0)) (by (with_reducible repeat (first | refine zN ?_ _ | refine zD ?_ | refine zA ?_ _)); refine blk_put (cs := #[.int .i64 bx, .slice (some aC) aa.length bZ]) ?_ 1 _ rfl; (with_reducible repeat (first | refine zN ?_ _ | refine zD ?_ | refine zA ?_ _)); refine blk_put (cs := #[.int .i64 ai, .slice (some aC) aa.length bZ]) ?_ 0 _ rfl; (with_reducible repeat (first | refine zN ?_ _ | refine zD ?_ | refine zA ?_ _)); exact ag.out) hg (Kd.R_ne aw.out ag.out (by decide))); have bj := zK (Kd.R_over' (by (with_reducible repeat (first | apply Kd.R_alloc | apply Kd.R_drewN | apply Kd.R_drew)); exact (Kd.R_mono (Kd.R_far (p := ⟨al, 1, none⟩) (Kd.R_far (p := ⟨al, 0, none⟩) (Kd.R_types an.out ag.out (by decide)) (fun _ hk => hk.2) (.int .i64 bx)) (fun _ hk => hk.2) (.slice bP bz.length bQ)) (fun _ h_ => h_.1))) (Kd.R_typed (by (with_reducible repeat (first | apply Kd.R_alloc | apply Kd.R_drewN | apply Kd.R_drew)); exact (Kd.R_mono (Kd.R_far (p := ⟨al, 1, none⟩) (Kd.R_far (p := ⟨al, 0, none⟩) (Kd.R_types aw.out ag.out (by decide)) (fun _ hk => hk.2) (.int .i64 bx)) (fun _ hk => hk.2) (.slice bP bz.length bQ)) (fun _ h_ => h_.1)))) (by decide) hg); have bm := zK (Kd.R_over' (by (with_reducible repeat (first | apply Kd.R_alloc | apply Kd.R_drewN | apply Kd.R_drew)); exact (Kd.R_mono (Kd.R_far (p := ⟨al, 1, none⟩) (Kd.R_far (p := ⟨al, 0, none⟩) (Kd.R_types ao.out ag.out (by decide)) (fun _ hk => hk.2) (.int .i64 bx)) (fun _ hk => hk.2) (.slice bP bz.length bQ)) (fun _ h_ => h_.1))) (Kd.R_typed (by (with_reducible repeat (first | apply Kd.R_alloc | apply Kd.R_drewN | apply Kd.R_drew)); exact (Kd.R_mono (Kd.R_far (p := ⟨al, 1, none⟩) (Kd.R_far (p := ⟨al, 0, none⟩) (Kd.R_types aw.out ag.out (by decide)) (fun _ hk => hk.2) (.int .i64 bx)) (fun _ hk => hk.2) (.slice bP bz.length bQ)) (fun _ h_ => h_.1)))) (by decide) hg); have bW := zK (Kd.R_over' (by (with_reducible repeat (first | apply Kd.R_alloc | apply Kd.R_drewN | apply Kd.R_drew)); exact (Kd.R_mono (Kd.R_far (p := ⟨al, 1, none⟩) (Kd.R_far (p := ⟨al, 0, none⟩) (Kd.R_types aj.out ag.out (by decide)) (fun _ hk => hk.2) (.int .i64 bx)) (fun _ hk => hk.2) (.slice bP bz.length bQ)) (fun _ h_ => h_.1))) (Kd.R_typed (by (with_reducible repeat (first | apply Kd.R_alloc | apply Kd.R_drewN | apply Kd.R_drew)); exact (Kd.R_mono (Kd.R_far (p := ⟨al, 1, none⟩) (Kd.R_far (p := ⟨al, 0, none⟩) (Kd.R_types aw.out ag.out (by decide)) (fun _ hk => hk.2) (.int .i64 bx)) (fun _ hk => hk.2) (.slice bP bz.length bQ)) (fun _ h_ => h_.1)))) (by decide) hg); have bX := zK (Kd.R_over' (by (with_reducible repeat (first | apply Kd.R_alloc | apply Kd.R_drewN | apply Kd.R_drew)); exact (Kd.R_mono (Kd.R_far (p := ⟨al, 1, none⟩) (Kd.R_far (p := ⟨al, 0, none⟩) (Kd.R_types az.out ag.out (by decide)) (fun _ hk => hk.2) (.int .i64 bx)) (fun _ hk => hk.2) (.slice bP bz.length bQ)) (fun _ h_ => h_.1))) (Kd.R_typed (by (with_reducible repeat (first | apply Kd.R_alloc | apply Kd.R_drewN | apply Kd.R_drew)); exact (Kd.R_mono (Kd.R_far (p := ⟨al, 1, none⟩) (Kd.R_far (p := ⟨al, 0, none⟩) (Kd.R_types aw.out ag.out (by decide)) (fun _ hk => hk.2) (.int .i64 bx)) (fun _ hk => hk.2) (.slice bP bz.length bQ)) (fun _ h_ => h_.1)))) (by decide) hg); have bY := zK (blk_grown (g := ae) (o := .cells #[.int .i64 ((rd_T30 (rd_L2 aa ac) (ak)).f0), .int .i64 ((rd_T30 (rd_L2 aa ac) (ak)).f1)] 30 (0, 0)) (by (with_reducible repeat (first | refine zN ?_ _ | refine zD ?_ | refine zA ?_ _)); refine blk_far ?_ a0.out _; (with_reducible repeat (first | refine zN ?_ _ | refine zD ?_ | refine zA ?_ _)); refine blk_far ?_ a0.out _; (with_reducible repeat (first | refine zN ?_ _ | refine zD ?_ | refine zA ?_ _)); exact aD.out) hg (Kd.R_ne aw.out aD.out (by decide))); have a4 := zK (Kd.S_over' (by (with_reducible repeat (first | apply Kd.S_alloc | apply Kd.S_drewN | apply Kd.S_drew)); exact (Kd.S_mono (Kd.S_far (p := ⟨al, 1, none⟩) (Kd.S_far (p := ⟨al, 0, none⟩) (Kd.S_types cJ.out ag.out (by decide)) (fun _ hk => hk.2) (.int .i64 bx)) (fun _ hk => hk.2) (.slice bP bz.length bQ)) (fun _ h_ => h_.1))) (Kd.R_typed (by (with_reducible repeat (first | apply Kd.R_alloc | apply Kd.R_drewN | apply Kd.R_drew)); exact (Kd.R_mono (Kd.R_far (p := ⟨al, 1, none⟩) (Kd.R_far (p := ⟨al, 0, none⟩) (Kd.R_types aw.out ag.out (by decide)) (fun _ hk => hk.2) (.int .i64 bx)) (fun _ hk => hk.2) (.slice bP bz.length bQ)) (fun _ h_ => h_.1)))) (by decide) hg); have bn := zK (hb); have bo := zK (ho); clear ad; clear ab; clear af; clear ah; clear ag; clear an; clear ao; clear aj; clear az; clear aD; clear cJ; clear HB; clear aw; have ad := aV; have ab := aW; have af := aX; have ah := aY; have ag := a5; have an := bj; have ao := bm; have aj := bW; have az := bX; have aD := bY; have cJ := a4; have HB := bn; have fB := bo; clear aV aW aX aY a5 bj bm bW bX bY a4 bn bo; clear ho hb hg hat))
             go_roundg k2
             case measure => have := HJ4.out; have := HK2.out; omega
             case rel => exact ⟨(fz), (ax), (bx), (bz), (.slice bP bz.length bQ), H', ⟨by have := HJ4.out; have := HK2.out; omega⟩, ⟨zR fB⟩, ⟨by (with_reducible repeat (first | apply Kd.S_alloc | apply Kd.S_drewN | apply Kd.S_drew)); exact Kd.S_mono ad.out (fun _ hk => hk.2)⟩, ⟨by (with_reducible repeat (first | apply Kd.S_alloc | apply Kd.S_drewN | apply Kd.S_drew)); exact Kd.S_mono cJ.out (fun _ hk => hk.1.1.1.1.1.1.2)⟩, ⟨zk af⟩, ⟨zk ah⟩, ⟨zk ag⟩, ⟨zb HB⟩⟩
            ·rw [if_neg c80] at H
             exact absurd H (by simp)
         ·rw [if_neg c42] at H
          exact absurd H (by simp)
        ·rw [if_neg c41] at H
         exact absurd H (by simp)
       ·rw [if_neg c39] at H
        exact absurd H (by simp)
      ·rw [if_neg c38] at H
       exact absurd H (by simp)
end Go.Proofs.Ytheckjlldkkceaa.Px
