import Derived.Test.YtmjhbdmicejppaaZoPx0
import Derived.Test.YtmjhbdmicejppaaZoPx3
import Derived.Test.YtmjhbdmicejppaaZoPx4
import Derived.Test.YtmjhbdmicejppaaZoPx10
namespace Go.Proofs.Ytmjhbdmicejppaa.Px
open Go.RowKit Go.Proofs.YtmjhbdmicejppaaW.PrintWords Go.Proofs.YtmjhbdmicejppaaW.PrintLast Go.Proofs.YtmjhbdmicejppaaW.PrintMore
attribute [local go_sem] max2_int min2_int max_two min_two max_three min_three max_four min_four   
set_option linter.unusedVariables false
set_option linter.unusedSimpArgs false
def laws_FnExactStepsOf.j0 : Nat → Bool → List Int → Int → List (S95) → List (S97) → List Int → Int → List (S69) → List (S74) → Option (Bool)
 | 0, _, _, _, _, _, _, _, _, _ => none
 | k + 1, x38, x802000, x802001, x802002, x802003, x826000, x826001, x826002, x826003 => if x38 = true then (some false) else ((laws_toLoop.f k x802000 x802001 x802002 x802003).bind fun bt828 => ((laws_eqLoop.f k x826000 x826001 x826002 x826003 bt828.1 bt828.2.1 bt828.2.2.1 bt828.2.2.2).bind fun t838 => (if t838 = true then (some true) else (some false))))
def laws_FnExactStepsOf.f (k : Nat) (l0_0 : List Int) (a0_1 : Int) (l0_2 : List (S95)) (l0_3 : List (S97)) (a1 : Int) : Option (Bool) := (laws_szLoop.f k l0_0 a0_1 l0_2 l0_3 1048576).bind fun t802 => (if t802 < 0 then (some true) else ((laws_toLoop.f k l0_0 a0_1 l0_2 l0_3).bind fun bt803 => ((spec_StepsOf.f k bt803.1 bt803.2.1 bt803.2.2.1 bt803.2.2.2 a1).bind fun bt813 => ((laws_toLoop.f k l0_0 a0_1 l0_2 l0_3).bind fun bt815 => ((impl_StepsOf.f k bt815.1 bt815.2.1 bt815.2.2.1 bt815.2.2.2 a1).bind fun bt826 => (if bt826.1 = bt813.1 then (laws_FnExactStepsOf.j0 k (bt826.2 != bt813.2) l0_0 a0_1 l0_2 l0_3 bt815.1 bt815.2.1 bt815.2.2.1 bt815.2.2.2) else (laws_FnExactStepsOf.j0 k true l0_0 a0_1 l0_2 l0_3 bt815.1 bt815.2.1 bt815.2.2.1 bt815.2.2.2)))))))
set_option maxHeartbeats 8000000 in
set_option maxRecDepth 100000 in
theorem laws_FnExactStepsOf.calls (k : Nat) (ap : Option Addr) (aq : Nat) (ae : List Int) (a0_1 : Int) (ar : Option Addr) (au : Nat) (af : List (S95)) (av : Option Addr) (aw : Nat) (ag : List (S97)) (a1 : Int) (r : Bool) (w : World) (bU : Kd.C (Kd.int .i64) w ap ae.length ae) (hc0_0 : ae.length ≤ aq) (bV : Kd.C k95 w ar af.length af) (hc0_2 : af.length ≤ au) (bW : Kd.C k97 w av ag.length ag) (hc0_3 : ag.length ≤ aw) (hrt : Aside0 (r = true)) (h : laws_FnExactStepsOf.f k ae a0_1 af ag a1 = some r) :
  Calls Try.prog 8 #[.agg #[.slice ap ae.length aq, .int .i64 a0_1, .slice ar af.length au, .slice av ag.length aw], .int .i64 a1] w fun e w' => e = .returned (.bool r) ∧ Below w.heap.size w w' := by
 have hu43 := Try.underlying43; have hu28 := Try.underlying28; have aX := zK bU; have aY := zK hc0_0; clear bU hc0_0; have aZ := zK bV; have a0 := zK hc0_2; clear bV hc0_2; have a2 := zK bW; have a3 := zK hc0_3; clear bW hc0_3
 have HB := zK (Below.refl w.heap.size w)
 have H : ((laws_szLoop.f k ae a0_1 af ag 1048576).bind fun a4 => (if a4 < 0 then (some true) else ((laws_toLoop.f k ae a0_1 af ag).bind fun bt803 => ((spec_StepsOf.f k bt803.1 bt803.2.1 bt803.2.2.1 bt803.2.2.2 a1).bind fun bt813 => ((laws_toLoop.f k ae a0_1 af ag).bind fun bt815 => ((impl_StepsOf.f k bt815.1 bt815.2.1 bt815.2.2.1 bt815.2.2.2 a1).bind fun bt826 => (if bt826.1 = bt813.1 then (laws_FnExactStepsOf.j0 k (bt826.2 != bt813.2) ae a0_1 af ag bt815.1 bt815.2.1 bt815.2.2.1 bt815.2.2.2) else (laws_FnExactStepsOf.j0 k true ae a0_1 af ag bt815.1 bt815.2.1 bt815.2.2.1 bt815.2.2.2)))))))) = some r := h
 clear h; replace H := Option.bind_eq_some_iff.mp H
 obtain ⟨a4, A30, H⟩ := H
 replace H : (if a4 < 0 then (some true) else ((laws_toLoop.f k ae a0_1 af ag).bind fun bt803 => ((spec_StepsOf.f k bt803.1 bt803.2.1 bt803.2.2.1 bt803.2.2.2 a1).bind fun bt813 => ((laws_toLoop.f k ae a0_1 af ag).bind fun bt815 => ((impl_StepsOf.f k bt815.1 bt815.2.1 bt815.2.2.1 bt815.2.2.2 a1).bind fun bt826 => (if bt826.1 = bt813.1 then (laws_FnExactStepsOf.j0 k (bt826.2 != bt813.2) ae a0_1 af ag bt815.1 bt815.2.1 bt815.2.2.1 bt815.2.2.2) else (laws_FnExactStepsOf.j0 k true ae a0_1 af ag bt815.1 bt815.2.1 bt815.2.2.1 bt815.2.2.2))))))) = some r := H
 have A3 := zK A30; clear A30
 by_cases c4 : a4 < 0
 ·rw [if_pos c4] at H
  have cd : decide (a4 < 0) = true := decide_eq_true c4
  clear c4; obtain rfl := Option.some.inj H
  go_enter Try.func8, Try.ntmps8
  go_wp2_with (first | ((with_reducible refine gate_dst (N := 2) rfl ?_); refine box_event ?hg (N := 2) ?hd (cs := #[.slice ap ae.length aq, .int .i64 a0_1, .slice ar af.length au, .slice av ag.length aw]) (t := 43) ?hr ?_; (case hd => rfl); (case hg => rfl); (case hr => first | (go_simp; done) | (go_simp; rfl)); intro ad hg w5 hbox hb; have aG := zK (below_step (zb HB) hb); have aH := zK (hbox); have aM := zK ((by rw [hg]; exact (below_size (zb HB)) : w.heap.size ≤ ad)); have aN := zK ((by rw [hg]; exact (below_size (zb HB)) : w.heap.size ≤ ad)); clear HB; have HB := aG; have aa := aH; have ce := aM; have al := aN; clear aG aH aM aN; clear hb hbox hg; have bZ : w5.cell? ⟨ad, 0, none⟩ = some (.slice ap ae.length aq) := (blk_cell aa.out 0).trans rfl; have b0 : w5.cell? ⟨ad, 1, none⟩ = some (.int .i64 a0_1) := (blk_cell aa.out 1).trans rfl; have b1 : w5.cell? ⟨ad, 2, none⟩ = some (.slice ar af.length au) := (blk_cell aa.out 2).trans rfl; have b2 : w5.cell? ⟨ad, 3, none⟩ = some (.slice av ag.length aw) := (blk_cell aa.out 3).trans rfl; have b3 := blk_frozen aa.out 0; have b4 := blk_frozen aa.out 1; have b5 := blk_frozen aa.out 2; have b6 := blk_frozen aa.out 3) | ((with_reducible refine gate_callee (f := 31) rfl ?_); refine goesL_ (some 13) rfl rfl Try.func31 (by kernel_rfl) rfl #[.agg #[.slice ap ae.length aq, .int .i64 a0_1, .slice ar af.length au, .slice av ag.length aw], .int .i64 1048576] rfl (by (try simp only [List.map_toArray, List.map_cons, List.map_nil]); first | done | rfl | (simp only [List.length_drop, List.length_take]; rfl)) ?_; (with_reducible refine (laws_szLoop.calls k _ _ ae a0_1 _ _ af _ _ ag 1048576 a4 _ ?side1 ?side2 ?side3 ?side4 ?side5 ?side6 A3.out).mono ?_); (case side1 => repeat (first | exact (Kd.C_below aX.out HB.out) | (with_reducible refine Kd.C_alloc ?_ _) | (with_reducible refine Kd.C_drewN ?_ _) | (with_reducible refine Kd.C_drew ?_))); (case side2 => exact aY.out); (case side3 => repeat (first | exact (Kd.C_below aZ.out HB.out) | (with_reducible refine Kd.C_alloc ?_ _) | (with_reducible refine Kd.C_drewN ?_ _) | (with_reducible refine Kd.C_drew ?_))); (case side4 => exact a0.out); (case side5 => repeat (first | exact (Kd.C_below a2.out HB.out) | (with_reducible refine Kd.C_alloc ?_ _) | (with_reducible refine Kd.C_drewN ?_ _) | (with_reducible refine Kd.C_drew ?_))); (case side6 => exact a3.out); rintro e w7 ⟨rfl, hb⟩; refine ⟨_, rfl, ?_⟩; have aG := zK (blk_below (g := ad) (o := .cells #[.slice ap ae.length aq, .int .i64 a0_1, .slice ar af.length au, .slice av ag.length aw] 43 (0, 0)) (zk aa) hb); have aH := zK (below_step (zb HB) hb); clear aa; clear HB; have aa := aG; have HB := aH; clear aG aH; (try clear hb)))
  go_ret
  exact ⟨by first | rfl | (simp [errW_none, errW_some] <;> rfl) | (simp [*, errW_none, errW_some] <;> rfl), by repeat (first | (with_reducible first | exact HB.out | apply zB | apply zC | apply zE | refine zS ?_ al.out) | exact HB.out)⟩
 ·rw [if_neg c4] at H
  have cd : decide (a4 < 0) = false := decide_eq_false c4
  clear c4; replace H := Option.bind_eq_some_iff.mp H
  obtain ⟨⟨aQ, bh, bb, bc⟩, A80, H⟩ := H
  replace H : ((spec_StepsOf.f k aQ bh bb bc a1).bind fun bt813 => ((laws_toLoop.f k ae a0_1 af ag).bind fun bt815 => ((impl_StepsOf.f k bt815.1 bt815.2.1 bt815.2.2.1 bt815.2.2.2 a1).bind fun bt826 => (if bt826.1 = bt813.1 then (laws_FnExactStepsOf.j0 k (bt826.2 != bt813.2) ae a0_1 af ag bt815.1 bt815.2.1 bt815.2.2.1 bt815.2.2.2) else (laws_FnExactStepsOf.j0 k true ae a0_1 af ag bt815.1 bt815.2.1 bt815.2.2.1 bt815.2.2.2))))) = some r := H
  have A8 := zK A80; clear A80; replace H := Option.bind_eq_some_iff.mp H
  obtain ⟨⟨aV, bf⟩, A90, H⟩ := H
  replace H : ((laws_toLoop.f k ae a0_1 af ag).bind fun bt815 => ((impl_StepsOf.f k bt815.1 bt815.2.1 bt815.2.2.1 bt815.2.2.2 a1).bind fun bt826 => (if bt826.1 = aV then (laws_FnExactStepsOf.j0 k (bt826.2 != bf) ae a0_1 af ag bt815.1 bt815.2.1 bt815.2.2.1 bt815.2.2.2) else (laws_FnExactStepsOf.j0 k true ae a0_1 af ag bt815.1 bt815.2.1 bt815.2.2.1 bt815.2.2.2)))) = some r := H
  have A9 := zK A90; clear A90; replace H := Option.bind_eq_some_iff.mp H
  obtain ⟨⟨ak, ao, am, an⟩, cf, H⟩ := H
  replace H : ((impl_StepsOf.f k ak ao am an a1).bind fun bt826 => (if bt826.1 = aV then (laws_FnExactStepsOf.j0 k (bt826.2 != bf) ae a0_1 af ag ak ao am an) else (laws_FnExactStepsOf.j0 k true ae a0_1 af ag ak ao am an))) = some r := H
  have A10 := zK cf; clear cf; replace H := Option.bind_eq_some_iff.mp H
  obtain ⟨⟨a6, b7⟩, cg, H⟩ := H
  replace H : (if a6 = aV then (laws_FnExactStepsOf.j0 k (b7 != bf) ae a0_1 af ag ak ao am an) else (laws_FnExactStepsOf.j0 k true ae a0_1 af ag ak ao am an)) = some r := H
  have A11 := zK cg; clear cg; have b8 := zK H; clear H
  go_enter Try.func8, Try.ntmps8
  go_upto_region 8 with (first | ((with_reducible refine gate_dst (N := 2) rfl ?_); refine box_event ?hg (N := 2) ?hd (cs := #[.slice ap ae.length aq, .int .i64 a0_1, .slice ar af.length au, .slice av ag.length aw]) (t := 43) ?hr ?_; (case hd => rfl); (case hg => rfl); (case hr => first | (go_simp; done) | (go_simp; rfl)); intro ad hg w13 hbox hb; have aG := zK (below_step (zb HB) hb); have aH := zK (hbox); have aM := zK ((by rw [hg]; exact (below_size (zb HB)) : w.heap.size ≤ ad)); have aN := zK ((by rw [hg]; exact (below_size (zb HB)) : w.heap.size ≤ ad)); clear HB; have HB := aG; have aa := aH; have ce := aM; have al := aN; clear aG aH aM aN; clear hb hbox hg; have bi : w13.cell? ⟨ad, 0, none⟩ = some (.slice ap ae.length aq) := (blk_cell aa.out 0).trans rfl; have bj : w13.cell? ⟨ad, 1, none⟩ = some (.int .i64 a0_1) := (blk_cell aa.out 1).trans rfl; have bk : w13.cell? ⟨ad, 2, none⟩ = some (.slice ar af.length au) := (blk_cell aa.out 2).trans rfl; have bl : w13.cell? ⟨ad, 3, none⟩ = some (.slice av ag.length aw) := (blk_cell aa.out 3).trans rfl; have bm := blk_frozen aa.out 0; have bn := blk_frozen aa.out 1; have bo := blk_frozen aa.out 2; have bp := blk_frozen aa.out 3) | ((with_reducible refine gate_callee (f := 31) rfl ?_); refine goesL_ (some 13) rfl rfl Try.func31 (by kernel_rfl) rfl #[.agg #[.slice ap ae.length aq, .int .i64 a0_1, .slice ar af.length au, .slice av ag.length aw], .int .i64 1048576] rfl (by (try simp only [List.map_toArray, List.map_cons, List.map_nil]); first | done | rfl | (simp only [List.length_drop, List.length_take]; rfl)) ?_; (with_reducible refine (laws_szLoop.calls k _ _ ae a0_1 _ _ af _ _ ag 1048576 a4 _ ?side1 ?side2 ?side3 ?side4 ?side5 ?side6 A3.out).mono ?_); (case side1 => repeat (first | exact (Kd.C_below aX.out HB.out) | (with_reducible refine Kd.C_alloc ?_ _) | (with_reducible refine Kd.C_drewN ?_ _) | (with_reducible refine Kd.C_drew ?_))); (case side2 => exact aY.out); (case side3 => repeat (first | exact (Kd.C_below aZ.out HB.out) | (with_reducible refine Kd.C_alloc ?_ _) | (with_reducible refine Kd.C_drewN ?_ _) | (with_reducible refine Kd.C_drew ?_))); (case side4 => exact a0.out); (case side5 => repeat (first | exact (Kd.C_below a2.out HB.out) | (with_reducible refine Kd.C_alloc ?_ _) | (with_reducible refine Kd.C_drewN ?_ _) | (with_reducible refine Kd.C_drew ?_))); (case side6 => exact a3.out); rintro e w15 ⟨rfl, hb⟩; refine ⟨_, rfl, ?_⟩; have aG := zK (blk_below (g := ad) (o := .cells #[.slice ap ae.length aq, .int .i64 a0_1, .slice ar af.length au, .slice av ag.length aw] 43 (0, 0)) (zk aa) hb); have aH := zK (below_step (zb HB) hb); clear aa; clear HB; have aa := aG; have HB := aH; clear aG aH; (try clear hb); (try clear hk); have bq : w15.cell? ⟨ad, 0, none⟩ = some (.slice ap ae.length aq) := (blk_cell aa.out 0).trans rfl; have br : w15.cell? ⟨ad, 1, none⟩ = some (.int .i64 a0_1) := (blk_cell aa.out 1).trans rfl; have bs : w15.cell? ⟨ad, 2, none⟩ = some (.slice ar af.length au) := (blk_cell aa.out 2).trans rfl; have bu : w15.cell? ⟨ad, 3, none⟩ = some (.slice av ag.length aw) := (blk_cell aa.out 3).trans rfl; have bv := blk_frozen aa.out 0; have bw := blk_frozen aa.out 1; have bx := blk_frozen aa.out 2; have bz := blk_frozen aa.out 3) | ((with_reducible refine gate_callee (f := 32) rfl ?_); refine goesL_ (some 18) rfl rfl Try.func32 (by kernel_rfl) rfl #[.agg #[.slice ap ae.length aq, .int .i64 a0_1, .slice ar af.length au, .slice av ag.length aw]] rfl (by (try simp only [List.map_toArray, List.map_cons, List.map_nil]); first | done | rfl | (simp only [List.length_drop, List.length_take]; rfl)) ?_; (with_reducible refine (laws_toLoop.calls k _ _ ae a0_1 _ _ af _ _ ag aQ bh bb bc _ ?side1 ?side2 ?side3 ?side4 ?side5 ?side6 A8.out).mono ?_); (case side1 => repeat (first | exact (Kd.C_below aX.out HB.out) | (with_reducible refine Kd.C_alloc ?_ _) | (with_reducible refine Kd.C_drewN ?_ _) | (with_reducible refine Kd.C_drew ?_))); (case side2 => exact aY.out); (case side3 => repeat (first | exact (Kd.C_below aZ.out HB.out) | (with_reducible refine Kd.C_alloc ?_ _) | (with_reducible refine Kd.C_drewN ?_ _) | (with_reducible refine Kd.C_drew ?_))); (case side4 => exact a0.out); (case side5 => repeat (first | exact (Kd.C_below a2.out HB.out) | (with_reducible refine Kd.C_alloc ?_ _) | (with_reducible refine Kd.C_drewN ?_ _) | (with_reducible refine Kd.C_drew ?_))); (case side6 => exact a3.out); rintro e w17 ⟨v804, v808, v811, rfl, ho0, ho1, ho2, hb⟩; refine ⟨_, rfl, ?_⟩; have aG := zK (Kd.R_lower ho0 (below_size (zb HB))); have aH := zK (Kd.S_lower ho1 (below_size (zb HB))); have aM := zK (Kd.S_lower ho2 (below_size (zb HB))); have aN := zK (blk_below (g := ad) (o := .cells #[.slice ap ae.length aq, .int .i64 a0_1, .slice ar af.length au, .slice av ag.length aw] 43 (0, 0)) (zk aa) hb); have aP := zK (below_step (zb HB) hb); clear aa; clear HB; have ax := aG; have ay := aH; have az := aM; have aa := aN; have HB := aP; clear aG aH aM aN aP; (try clear hb); (try clear hk); (try clear ho0); (try clear ho1); (try clear ho2); obtain ⟨a7, a8, eo18⟩ := Kd.R_slice ax.out; subst eo18; obtain ⟨b9, ca, eo19⟩ := Kd.S_slice ay.out; subst eo19; obtain ⟨cb, cc, eo20⟩ := Kd.S_slice az.out; subst eo20) | ((with_reducible refine gate_callee (f := 18) rfl ?_); refine goesL_ (some 20) rfl rfl Try.func18 (by kernel_rfl) rfl #[.agg #[.slice a7 aQ.length a8, .int .i64 bh, .slice b9 bb.length ca, .slice cb bc.length cc], .int .i64 a1] rfl (by (try simp only [List.map_toArray, List.map_cons, List.map_nil]); first | done | rfl | (simp only [List.length_drop, List.length_take]; rfl)) ?_; (with_reducible refine (spec_StepsOf.calls k (fun k_ => some k_ = (.slice a7 aQ.length a8 : Value).ownBlock) _ _ aQ bh (fun k_ => ((some k_ ≠ (.slice a7 aQ.length a8 : Value).ownBlock ∧ some k_ ≠ (.slice cb bc.length cc : Value).ownBlock) ∧ k_ ≠ ad)) _ _ bb (fun k_ => ((some k_ ≠ (.slice a7 aQ.length a8 : Value).ownBlock ∧ some k_ ≠ (.slice b9 bb.length ca : Value).ownBlock) ∧ k_ ≠ ad)) _ _ bc a1 aV bf _ ?side1 ?side2 ?side3 A9.out).mono ?_); (case side1 => exact Kd.R_V (Kd.R_tight rfl (Kd.R_types (Kd.R_apart' (Kd.R_apart' (ax.out) (Kd.S_typed ay.out) (by decide)) (Kd.S_typed az.out) (by decide)) aa.out (by decide)))); (case side2 => exact Kd.S_V (Kd.S_types (Kd.S_apart' (ay.out) (Kd.S_typed az.out) (by decide)) aa.out (by decide))); (case side3 => exact Kd.S_V (Kd.S_types (Kd.S_apart' (az.out) (Kd.S_typed ay.out) (by decide)) aa.out (by decide))); rintro e w21 ⟨rfl, hb⟩; refine ⟨_, rfl, ?_⟩; have aG := zK (Kd.R_below (zR ax) hb); have aH := zK (Kd.S_below (zT ay) hb); have aM := zK (Kd.S_below (zT az) hb); have aN := zK (blk_below (g := ad) (o := .cells #[.slice ap ae.length aq, .int .i64 a0_1, .slice ar af.length au, .slice av ag.length aw] 43 (0, 0)) (zk aa) hb); have aP := zK (below_step (zb HB) hb); clear ax; clear ay; clear az; clear aa; clear HB; have ax := aG; have ay := aH; have az := aM; have aa := aN; have HB := aP; clear aG aH aM aN aP; (try clear hb); (try clear hk); have bA : w21.cell? ⟨ad, 0, none⟩ = some (.slice ap ae.length aq) := (blk_cell aa.out 0).trans rfl; have bB : w21.cell? ⟨ad, 1, none⟩ = some (.int .i64 a0_1) := (blk_cell aa.out 1).trans rfl; have bC : w21.cell? ⟨ad, 2, none⟩ = some (.slice ar af.length au) := (blk_cell aa.out 2).trans rfl; have bD : w21.cell? ⟨ad, 3, none⟩ = some (.slice av ag.length aw) := (blk_cell aa.out 3).trans rfl; have bE := blk_frozen aa.out 0; have bF := blk_frozen aa.out 1; have bG := blk_frozen aa.out 2; have bH := blk_frozen aa.out 3) | ((with_reducible refine gate_callee (f := 32) rfl ?_); refine goesL_ (some 24) rfl rfl Try.func32 (by kernel_rfl) rfl #[.agg #[.slice ap ae.length aq, .int .i64 a0_1, .slice ar af.length au, .slice av ag.length aw]] rfl (by (try simp only [List.map_toArray, List.map_cons, List.map_nil]); first | done | rfl | (simp only [List.length_drop, List.length_take]; rfl)) ?_; (with_reducible refine (laws_toLoop.calls k _ _ ae a0_1 _ _ af _ _ ag ak ao am an _ ?side1 ?side2 ?side3 ?side4 ?side5 ?side6 A10.out).mono ?_); (case side1 => repeat (first | exact (Kd.C_below aX.out HB.out) | (with_reducible refine Kd.C_alloc ?_ _) | (with_reducible refine Kd.C_drewN ?_ _) | (with_reducible refine Kd.C_drew ?_))); (case side2 => exact aY.out); (case side3 => repeat (first | exact (Kd.C_below aZ.out HB.out) | (with_reducible refine Kd.C_alloc ?_ _) | (with_reducible refine Kd.C_drewN ?_ _) | (with_reducible refine Kd.C_drew ?_))); (case side4 => exact a0.out); (case side5 => repeat (first | exact (Kd.C_below a2.out HB.out) | (with_reducible refine Kd.C_alloc ?_ _) | (with_reducible refine Kd.C_drewN ?_ _) | (with_reducible refine Kd.C_drew ?_))); (case side6 => exact a3.out); rintro e w23 ⟨v816, v820, v823, rfl, ho0, ho1, ho2, hb⟩; refine ⟨_, rfl, ?_⟩; have aG := zK (Kd.R_elder' (zR ax) (Kd.R_base ho0) hb); have aH := zK (Kd.S_mono (Kd.S_told (Kd.S_told (Kd.S_old (zT ay) hb) (Kd.R_base ho0)) (Kd.S_base ho1)) (fun _ h_ => h_.1)); have aM := zK (Kd.S_mono (Kd.S_told (Kd.S_told (Kd.S_old (zT az) hb) (Kd.R_base ho0)) (Kd.S_base ho2)) (fun _ h_ => h_.1)); have aN := zK (Kd.R_lower (Kd.R_new' ho0 (Kd.R_lt (zR ax))) (below_size (zb HB))); have aP := zK (Kd.S_lower (Kd.S_new' (Kd.S_new' ho1 (Kd.R_lt (zR ax))) (Kd.S_lt (zT ay))) (below_size (zb HB))); have a5 := zK (Kd.S_lower (Kd.S_new' (Kd.S_new' ho2 (Kd.R_lt (zR ax))) (Kd.S_lt (zT az))) (below_size (zb HB))); have a9 := zK (blk_below (g := ad) (o := .cells #[.slice ap ae.length aq, .int .i64 a0_1, .slice ar af.length au, .slice av ag.length aw] 43 (0, 0)) (zk aa) hb); have ba := zK (below_step (zb HB) hb); clear ax; clear ay; clear az; clear aa; clear HB; have ax := aG; have ay := aH; have az := aM; have aJ := aN; have aK := aP; have aL := a5; have aa := a9; have HB := ba; clear aG aH aM aN aP a5 a9 ba; (try clear hb); (try clear hk); (try clear ho0); (try clear ho1); (try clear ho2)) | ((with_reducible refine gate_dst (N := 8) rfl ?_); refine box_event ?hg (N := 8) ?hd (cs := #[.slice none 0 0, .int .i64 0, .slice none 0 0, .slice none 0 0]) (t := 28) ?hr ?_; (case hd => rfl); (case hg => rfl); (case hr => first | (go_simp; done) | (go_simp; rfl)); intro ab hg w24 hbox hb; have aG := zK (Kd.R_below (zR ax) hb); have aH := zK (Kd.S_below (zT ay) hb); have aM := zK (Kd.S_below (zT az) hb); have aN := zK (Kd.R_below (zR aJ) hb); have aP := zK (Kd.S_below (zT aK) hb); have a5 := zK (Kd.S_below (zT aL) hb); have a9 := zK (blk_below (g := ad) (o := .cells #[.slice ap ae.length aq, .int .i64 a0_1, .slice ar af.length au, .slice av ag.length aw] 43 (0, 0)) (zk aa) hb); have ba := zK (below_step (zb HB) hb); have bg := zK (hbox); have n9_ := zK ((by rw [hg]; exact (below_size (zb HB)) : w.heap.size ≤ ab)); have ch := zK ((by rw [hg]; exact (below_size (zb HB)) : w.heap.size ≤ ab)); have ci := zK ((by rw [hg]; exact Nat.ne_of_lt (blk_lt (g := ad) (o := .cells #[.slice ap ae.length aq, .int .i64 a0_1, .slice ar af.length au, .slice av ag.length aw] 43 (0, 0)) (zk aa)) : ad ≠ ab)); have cj := zK ((by rw [hg]; exact Nat.ne_of_gt (blk_lt (g := ad) (o := .cells #[.slice ap ae.length aq, .int .i64 a0_1, .slice ar af.length au, .slice av ag.length aw] 43 (0, 0)) (zk aa)) : ab ≠ ad)); clear ax; clear ay; clear az; clear aJ; clear aK; clear aL; clear aa; clear HB; have ax := aG; have ay := aH; have az := aM; have aJ := aN; have aK := aP; have aL := a5; have aa := a9; have HB := ba; have ac := bg; have GW825 := n9_; have aO := ch; have aC := ci; have bd := cj; clear aG aH aM aN aP a5 a9 ba bg n9_ ch ci cj; clear hb hbox hg; obtain ⟨aB, aA, eo25⟩ := Kd.R_slice aJ.out; subst eo25; have hnb26 := bd.out; have hnc26 := aC.out; have bI : w24.cell? ⟨ab, 0, none⟩ = some (.slice none 0 0) := (blk_cell ac.out 0).trans rfl; have bJ : w24.cell? ⟨ab, 1, none⟩ = some (.int .i64 0) := (blk_cell ac.out 1).trans rfl; have bK : w24.cell? ⟨ab, 2, none⟩ = some (.slice none 0 0) := (blk_cell ac.out 2).trans rfl; have bL : w24.cell? ⟨ab, 3, none⟩ = some (.slice none 0 0) := (blk_cell ac.out 3).trans rfl; have bM := blk_frozen ac.out 0; have bN := blk_frozen ac.out 1; have bO := blk_frozen ac.out 2; have bP := blk_frozen ac.out 3; obtain ⟨aE, aD, eo28⟩ := Kd.S_slice aK.out; subst eo28; obtain ⟨aI, aF, eo29⟩ := Kd.S_slice aL.out; subst eo29) | ((with_reducible refine gate_callee (f := 17) rfl ?_); refine goesL_ (some 28) rfl rfl Try.func17 (by kernel_rfl) rfl #[.agg #[.slice aB ak.length aA, .int .i64 ao, .slice aE am.length aD, .slice aI an.length aF], .int .i64 a1] rfl (by (try simp only [List.map_toArray, List.map_cons, List.map_nil]); first | done | rfl | (simp only [List.length_drop, List.length_take]; rfl)) ?_; (with_reducible refine (impl_StepsOf.calls k _ _ ak ao _ _ am _ _ an a1 a6 b7 _ ?side1 ?side2 ?side3 ?side4 ?side5 ?side6 A11.out).mono ?_); (case side1 => refine (Kd.R_reads' (e := 3) (base := w.heap.size) (ok := fun k_ => (True ∧ some k_ ≠ (.slice a7 aQ.length a8 : Value).ownBlock)) (n := ak.length) (c := aA) ?_).2.2; exact (by (with_reducible repeat (first | apply Kd.R_alloc | apply Kd.R_drewN | apply Kd.R_drew)); exact (Kd.R_mono (Kd.R_far (p := ⟨ab, 3, none⟩) (Kd.R_far (p := ⟨ab, 2, none⟩) (Kd.R_far (p := ⟨ab, 1, none⟩) (Kd.R_far (p := ⟨ab, 0, none⟩) (Kd.R_types aJ.out ac.out (by decide)) (fun _ hk => hk.2) (.slice aB ak.length aA)) (fun _ hk => hk.2) (.int .i64 ao)) (fun _ hk => hk.2) (.slice aE am.length aD)) (fun _ hk => hk.2) (.slice aI an.length aF)) (fun _ h_ => h_.1)))); (case side2 => exact (Kd.R_reads' aJ.out).2.1); (case side3 => refine (Kd.S_reads' (e := 69) (base := w.heap.size) (ok := fun k_ => ((some k_ ≠ (.slice aB ak.length aA : Value).ownBlock ∧ some k_ ≠ (.slice a7 aQ.length a8 : Value).ownBlock) ∧ some k_ ≠ (.slice b9 bb.length ca : Value).ownBlock)) (n := am.length) (c := aD) ?_).2.2; exact (by (with_reducible repeat (first | apply Kd.S_alloc | apply Kd.S_drewN | apply Kd.S_drew)); exact (Kd.S_mono (Kd.S_far (p := ⟨ab, 3, none⟩) (Kd.S_far (p := ⟨ab, 2, none⟩) (Kd.S_far (p := ⟨ab, 1, none⟩) (Kd.S_far (p := ⟨ab, 0, none⟩) (Kd.S_types aK.out ac.out (by decide)) (fun _ hk => hk.2) (.slice aB ak.length aA)) (fun _ hk => hk.2) (.int .i64 ao)) (fun _ hk => hk.2) (.slice aE am.length aD)) (fun _ hk => hk.2) (.slice aI an.length aF)) (fun _ h_ => h_.1)))); (case side4 => exact (Kd.S_reads' aK.out).2.1); (case side5 => refine (Kd.S_reads' (e := 74) (base := w.heap.size) (ok := fun k_ => ((some k_ ≠ (.slice aB ak.length aA : Value).ownBlock ∧ some k_ ≠ (.slice a7 aQ.length a8 : Value).ownBlock) ∧ some k_ ≠ (.slice cb bc.length cc : Value).ownBlock)) (n := an.length) (c := aF) ?_).2.2; exact (by (with_reducible repeat (first | apply Kd.S_alloc | apply Kd.S_drewN | apply Kd.S_drew)); exact (Kd.S_mono (Kd.S_far (p := ⟨ab, 3, none⟩) (Kd.S_far (p := ⟨ab, 2, none⟩) (Kd.S_far (p := ⟨ab, 1, none⟩) (Kd.S_far (p := ⟨ab, 0, none⟩) (Kd.S_types aL.out ac.out (by decide)) (fun _ hk => hk.2) (.slice aB ak.length aA)) (fun _ hk => hk.2) (.int .i64 ao)) (fun _ hk => hk.2) (.slice aE am.length aD)) (fun _ hk => hk.2) (.slice aI an.length aF)) (fun _ h_ => h_.1)))); (case side6 => exact (Kd.S_reads' aL.out).2.1); rintro e w30 ⟨rfl, hb⟩; refine ⟨_, rfl, ?_⟩; have aG := zK (Kd.R_below (by (with_reducible repeat (first | apply Kd.R_alloc | apply Kd.R_drewN | apply Kd.R_drew)); exact (Kd.R_mono (Kd.R_far (p := ⟨ab, 3, none⟩) (Kd.R_far (p := ⟨ab, 2, none⟩) (Kd.R_far (p := ⟨ab, 1, none⟩) (Kd.R_far (p := ⟨ab, 0, none⟩) (Kd.R_types ax.out ac.out (by decide)) (fun _ hk => hk.2) (.slice aB ak.length aA)) (fun _ hk => hk.2) (.int .i64 ao)) (fun _ hk => hk.2) (.slice aE am.length aD)) (fun _ hk => hk.2) (.slice aI an.length aF)) (fun _ h_ => h_.1))) hb); have aH := zK (Kd.S_below (by (with_reducible repeat (first | apply Kd.S_alloc | apply Kd.S_drewN | apply Kd.S_drew)); exact (Kd.S_mono (Kd.S_far (p := ⟨ab, 3, none⟩) (Kd.S_far (p := ⟨ab, 2, none⟩) (Kd.S_far (p := ⟨ab, 1, none⟩) (Kd.S_far (p := ⟨ab, 0, none⟩) (Kd.S_types ay.out ac.out (by decide)) (fun _ hk => hk.2) (.slice aB ak.length aA)) (fun _ hk => hk.2) (.int .i64 ao)) (fun _ hk => hk.2) (.slice aE am.length aD)) (fun _ hk => hk.2) (.slice aI an.length aF)) (fun _ h_ => h_.1))) hb); have aM := zK (Kd.S_below (by (with_reducible repeat (first | apply Kd.S_alloc | apply Kd.S_drewN | apply Kd.S_drew)); exact (Kd.S_mono (Kd.S_far (p := ⟨ab, 3, none⟩) (Kd.S_far (p := ⟨ab, 2, none⟩) (Kd.S_far (p := ⟨ab, 1, none⟩) (Kd.S_far (p := ⟨ab, 0, none⟩) (Kd.S_types az.out ac.out (by decide)) (fun _ hk => hk.2) (.slice aB ak.length aA)) (fun _ hk => hk.2) (.int .i64 ao)) (fun _ hk => hk.2) (.slice aE am.length aD)) (fun _ hk => hk.2) (.slice aI an.length aF)) (fun _ h_ => h_.1))) hb); have aN := zK (Kd.R_below (by (with_reducible repeat (first | apply Kd.R_alloc | apply Kd.R_drewN | apply Kd.R_drew)); exact (Kd.R_mono (Kd.R_far (p := ⟨ab, 3, none⟩) (Kd.R_far (p := ⟨ab, 2, none⟩) (Kd.R_far (p := ⟨ab, 1, none⟩) (Kd.R_far (p := ⟨ab, 0, none⟩) (Kd.R_types aJ.out ac.out (by decide)) (fun _ hk => hk.2) (.slice aB ak.length aA)) (fun _ hk => hk.2) (.int .i64 ao)) (fun _ hk => hk.2) (.slice aE am.length aD)) (fun _ hk => hk.2) (.slice aI an.length aF)) (fun _ h_ => h_.1))) hb); have aP := zK (Kd.S_below (by (with_reducible repeat (first | apply Kd.S_alloc | apply Kd.S_drewN | apply Kd.S_drew)); exact (Kd.S_mono (Kd.S_far (p := ⟨ab, 3, none⟩) (Kd.S_far (p := ⟨ab, 2, none⟩) (Kd.S_far (p := ⟨ab, 1, none⟩) (Kd.S_far (p := ⟨ab, 0, none⟩) (Kd.S_types aK.out ac.out (by decide)) (fun _ hk => hk.2) (.slice aB ak.length aA)) (fun _ hk => hk.2) (.int .i64 ao)) (fun _ hk => hk.2) (.slice aE am.length aD)) (fun _ hk => hk.2) (.slice aI an.length aF)) (fun _ h_ => h_.1))) hb); have a5 := zK (Kd.S_below (by (with_reducible repeat (first | apply Kd.S_alloc | apply Kd.S_drewN | apply Kd.S_drew)); exact (Kd.S_mono (Kd.S_far (p := ⟨ab, 3, none⟩) (Kd.S_far (p := ⟨ab, 2, none⟩) (Kd.S_far (p := ⟨ab, 1, none⟩) (Kd.S_far (p := ⟨ab, 0, none⟩) (Kd.S_types aL.out ac.out (by decide)) (fun _ hk => hk.2) (.slice aB ak.length aA)) (fun _ hk => hk.2) (.int .i64 ao)) (fun _ hk => hk.2) (.slice aE am.length aD)) (fun _ hk => hk.2) (.slice aI an.length aF)) (fun _ h_ => h_.1))) hb); have a9 := zK (blk_below (g := ad) (o := .cells #[.slice ap ae.length aq, .int .i64 a0_1, .slice ar af.length au, .slice av ag.length aw] 43 (0, 0)) (by (with_reducible repeat (first | refine zN ?_ _ | refine zD ?_ | refine zA ?_ _)); refine blk_far ?_ aC.out _; (with_reducible repeat (first | refine zN ?_ _ | refine zD ?_ | refine zA ?_ _)); refine blk_far ?_ aC.out _; (with_reducible repeat (first | refine zN ?_ _ | refine zD ?_ | refine zA ?_ _)); refine blk_far ?_ aC.out _; (with_reducible repeat (first | refine zN ?_ _ | refine zD ?_ | refine zA ?_ _)); refine blk_far ?_ aC.out _; (with_reducible repeat (first | refine zN ?_ _ | refine zD ?_ | refine zA ?_ _)); exact aa.out) hb); have ba := zK (blk_below (g := ab) (o := .cells #[.slice aB ak.length aA, .int .i64 ao, .slice aE am.length aD, .slice aI an.length aF] 28 (0, 0)) (by (with_reducible repeat (first | refine zN ?_ _ | refine zD ?_ | refine zA ?_ _)); refine blk_put (cs := #[.slice aB ak.length aA, .int .i64 ao, .slice aE am.length aD, .slice none 0 0]) ?_ 3 _ rfl; (with_reducible repeat (first | refine zN ?_ _ | refine zD ?_ | refine zA ?_ _)); refine blk_put (cs := #[.slice aB ak.length aA, .int .i64 ao, .slice none 0 0, .slice none 0 0]) ?_ 2 _ rfl; (with_reducible repeat (first | refine zN ?_ _ | refine zD ?_ | refine zA ?_ _)); refine blk_put (cs := #[.slice aB ak.length aA, .int .i64 0, .slice none 0 0, .slice none 0 0]) ?_ 1 _ rfl; (with_reducible repeat (first | refine zN ?_ _ | refine zD ?_ | refine zA ?_ _)); refine blk_put (cs := #[.slice none 0 0, .int .i64 0, .slice none 0 0, .slice none 0 0]) ?_ 0 _ rfl; (with_reducible repeat (first | refine zN ?_ _ | refine zD ?_ | refine zA ?_ _)); exact ac.out) hb); have bg := zK (below_step (zb HB) hb); clear ax; clear ay; clear az; clear aJ; clear aK; clear aL; clear aa; clear ac; clear HB; have ax := aG; have ay := aH; have az := aM; have aJ := aN; have aK := aP; have aL := a5; have aa := a9; have ac := ba; have HB := bg; clear aG aH aM aN aP a5 a9 ba bg; (try clear hb); (try clear hk)))
  (try simp only [Act.put, zp, zq, zr])
  go_cut [38] (fun v38 wc => ∃ (kq : Nat) (aW : Bool), v38 = .bool aW ∧ Aside0 (laws_FnExactStepsOf.j0 kq aW ae a0_1 af ag ak ao am an = some r) ∧ Aside0 (kq ≤ k) ∧ Aside0 (Kd.R (Kd.int .i64) 3 wc w.heap.size (fun _ => True) (.slice aB ak.length aA) ak) ∧ Aside0 (Kd.S k69 69 wc w.heap.size (fun k_ => some k_ ≠ ((.slice aB ak.length aA) : Value).ownBlock) (.slice aE am.length aD) am) ∧ Aside0 (Kd.S k74 74 wc w.heap.size (fun k_ => some k_ ≠ ((.slice aB ak.length aA) : Value).ownBlock) (.slice aI an.length aF) an) ∧ Aside0 (wc.heap[ad]? = some (.cells #[(.slice ap ae.length aq), .int .i64 a0_1, (.slice ar af.length au), (.slice av ag.length aw)] 43 (0, 0))) ∧ Aside0 (wc.heap[ab]? = some (.cells #[(.slice aB ak.length aA), .int .i64 ao, (.slice aE am.length aD), (.slice aI an.length aF)] 28 (0, 0))) ∧ Aside0 (Below w.heap.size w wc))
  case first =>
   have H := b8.out; clear b8
   by_cases bX : a6 = aV
   ·rw [if_pos bX] at H
    have aR : (a6 == aV) = true := beq_iff_eq.mpr bX
    have bY : (a6 != aV) = false := bne_eq_false_iff_eq.mpr bX
    clear bX
    (first | rw [aR] | (simp only [i64_w, i32_w]; rw [aR]) | skip)
    have H' := zK H; clear H
    go_wp2
    go_meet
    case rel => exact ⟨_, ((b7 != bf)), (by first | rfl | (simp; done) | (simp [*]; done)), H', ⟨by first | omega | exact Nat.le_refl _⟩, ⟨by (with_reducible repeat (first | apply Kd.R_alloc | apply Kd.R_drewN | apply Kd.R_drew)); exact Kd.R_mono aJ.out (fun _ hk => trivial)⟩, ⟨by (with_reducible repeat (first | apply Kd.S_alloc | apply Kd.S_drewN | apply Kd.S_drew)); exact Kd.S_mono aK.out (fun _ hk => hk.1.1)⟩, ⟨by (with_reducible repeat (first | apply Kd.S_alloc | apply Kd.S_drewN | apply Kd.S_drew)); exact Kd.S_mono aL.out (fun _ hk => hk.1.1)⟩, ⟨zk aa⟩, ⟨zk ac⟩, ⟨zb HB⟩⟩
   ·rw [if_neg bX] at H
    have aR : (a6 == aV) = false := beq_eq_false_iff_ne.mpr bX
    have bY : (a6 != aV) = true := bne_iff_ne.mpr bX
    (first | rw [aR] | (simp only [i64_w, i32_w]; rw [aR]) | skip)
    exact absurd (H.trans (congrArg some hrt.out)) (by cases k <;> simp [laws_FnExactStepsOf.j0])
  case rest =>
   clear b8
   try clear c1
   try clear c2
   try clear p2
   try clear c3
   try clear c4
   try clear cd
   try clear c8
   try clear c17
   try clear c18
   try clear c26
   try clear bX
   try clear aR
   try clear bY
   try clear bi
   try clear bj
   try clear bk
   try clear bl
   try clear bq
   try clear br
   try clear bs
   try clear bu
   try clear bA
   try clear bB
   try clear bC
   try clear bD
   try clear bI
   try clear bJ
   try clear bK
   try clear bL
   try clear bZ
   try clear b0
   try clear b1
   try clear b2
   try clear bm
   try clear bn
   try clear bo
   try clear bp
   try clear bv
   try clear bw
   try clear bx
   try clear bz
   try clear bE
   try clear bF
   try clear bG
   try clear bH
   try clear bM
   try clear bN
   try clear bO
   try clear bP
   try clear b3
   try clear b4
   try clear b5
   try clear b6
   obtain ⟨kq, aW, rfl, HA, HJ11, ah, ai, aj, aa, ac, HB⟩ := hcut
   cases kq with
   | zero => exact absurd HA.out (by simp [laws_FnExactStepsOf.j0])
   | succ kj11 =>
    have H := HA.out; clear HA
    simp only [laws_FnExactStepsOf.j0] at H
    by_cases c32 : aW = true
    ·subst c32
     have H1 : (some false) = some r := by rw [if_pos rfl] at H; exact H
     clear H; have H := H1; clear H1
     exact absurd (H.trans (congrArg some hrt.out)) (by simp)
    ·replace c32 := Bool.eq_false_iff.mpr c32
     subst c32
     have H1 : ((laws_toLoop.f kj11 ae a0_1 af ag).bind fun bt828 => ((laws_eqLoop.f kj11 ak ao am an bt828.1 bt828.2.1 bt828.2.2.1 bt828.2.2.2).bind fun be => (if be = true then (some true) else (some false)))) = some r := by rw [if_neg (show ¬ (false = true) by decide)] at H; exact H
     clear H; have H := H1; clear H1; replace H := Option.bind_eq_some_iff.mp H
     obtain ⟨⟨bQ, bR, bS, bT⟩, ck, H⟩ := H
     replace H : ((laws_eqLoop.f kj11 ak ao am an bQ bR bS bT).bind fun be => (if be = true then (some true) else (some false))) = some r := H
     have A33 := zK ck; clear ck; replace H := Option.bind_eq_some_iff.mp H
     obtain ⟨be, cl, H⟩ := H
     replace H : (if be = true then (some true) else (some false)) = some r := H
     have A34 := zK cl; clear cl
     by_cases c35 : be = true
     ·subst c35
      have H1 : (some true) = some r := by rw [if_pos rfl] at H; exact H
      clear H; have H := H1; clear H1; obtain rfl := Option.some.inj H
      try go_wp2
      have aG := zK (Kd.R_drew ah.out)
      have aH := zK (Kd.S_drew ai.out)
      have aM := zK (Kd.S_drew aj.out)
      have aN := zK (zD aa.out)
      have aP := zK (zD ac.out)
      have a5 := zK (zE HB.out)
      clear ah ai aj aa ac HB; have ah := aG; have ai := aH; have aj := aM; have aa := aN; have ac := aP; have HB := a5; clear aG aH aM aN aP a5
      refine start_ (n := 5) (S := fun w' => w'.cell? ⟨ab, 0, none⟩ = some (.slice aB ak.length aA) ∧ w'.cell? ⟨ab, 1, none⟩ = some (.int .i64 ao) ∧ w'.cell? ⟨ab, 2, none⟩ = some (.slice aE am.length aD) ∧ w'.cell? ⟨ab, 3, none⟩ = some (.slice aI an.length aF) ∧ w'.cell? ⟨ad, 0, none⟩ = some (.slice ap ae.length aq) ∧ w'.cell? ⟨ad, 1, none⟩ = some (.int .i64 a0_1) ∧ w'.cell? ⟨ad, 2, none⟩ = some (.slice ar af.length au) ∧ w'.cell? ⟨ad, 3, none⟩ = some (.slice av ag.length aw)) (ds := []) #[ff, ff, ff, ff, ff] (by kernel_rfl) rfl rfl ⟨(blk_cell ac.out 0).trans rfl, (blk_cell ac.out 1).trans rfl, (blk_cell ac.out 2).trans rfl, (blk_cell ac.out 3).trans rfl, (blk_cell aa.out 0).trans rfl, (blk_cell aa.out 1).trans rfl, (blk_cell aa.out 2).trans rfl, (blk_cell aa.out 3).trans rfl⟩ (fun hHeld => ?_)
      generalize wc.drew = w36 at ah ai aj aa ac HB hHeld ⊢
      refine zt 0 (some 39) #[tt, ff, ff, ff, ff] (by kernel_rfl) hHeld ?_
      refine zt 1 (some 40) #[tt, tt, ff, ff, ff] (by kernel_rfl) hHeld ?_
      refine one_ (i := 2) (N := some 41) #[tt, tt, tt, ff, ff] rfl rfl (by kernel_rfl) (by decide) (fun K hK => ?_)
      refine goes_ Try.func32 (by kernel_rfl) rfl #[.agg #[.slice ap ae.length aq, .int .i64 a0_1, .slice ar af.length au, .slice av ag.length aw]] (by rfl) rfl rfl (by (try simp only [List.map_toArray, List.map_cons, List.map_nil]); first | done | rfl | (simp only [List.length_drop, List.length_take]; rfl)) ?_
      with_reducible refine (laws_toLoop.calls kj11 _ _ ae a0_1 _ _ af _ _ ag bQ bR bS bT _ ?side1 ?side2 ?side3 ?side4 ?side5 ?side6 A33.out).mono ?_
      (case side1 => repeat (first | exact (Kd.C_below aX.out HB.out) | (with_reducible refine Kd.C_alloc ?_ _) | (with_reducible refine Kd.C_drewN ?_ _) | (with_reducible refine Kd.C_drew ?_)))
      (case side2 => exact aY.out)
      (case side3 => repeat (first | exact (Kd.C_below aZ.out HB.out) | (with_reducible refine Kd.C_alloc ?_ _) | (with_reducible refine Kd.C_drewN ?_ _) | (with_reducible refine Kd.C_drew ?_)))
      (case side4 => exact a0.out)
      (case side5 => repeat (first | exact (Kd.C_below a2.out HB.out) | (with_reducible refine Kd.C_alloc ?_ _) | (with_reducible refine Kd.C_drewN ?_ _) | (with_reducible refine Kd.C_drew ?_)))
      (case side6 => exact a3.out)
      rintro e w37 ⟨v829, v833, v836, rfl, ho0, ho1, ho2, hb⟩
      refine ⟨_, rfl, ?_⟩
      have aG := zK (Kd.R_elder' (zR ah) (Kd.R_base ho0) hb)
      have aH := zK (Kd.S_mono (Kd.S_told (Kd.S_told (Kd.S_old (zT ai) hb) (Kd.R_base ho0)) (Kd.S_base ho1)) (fun _ h_ => h_.1))
      have aM := zK (Kd.S_mono (Kd.S_told (Kd.S_told (Kd.S_old (zT aj) hb) (Kd.R_base ho0)) (Kd.S_base ho2)) (fun _ h_ => h_.1))
      have aN := zK (Kd.R_lower (Kd.R_new' ho0 (Kd.R_lt (zR ah))) (below_size (zb HB)))
      have aP := zK (Kd.S_lower (Kd.S_new' (Kd.S_new' ho1 (Kd.R_lt (zR ah))) (Kd.S_lt (zT ai))) (below_size (zb HB)))
      have a5 := zK (Kd.S_lower (Kd.S_new' (Kd.S_new' ho2 (Kd.R_lt (zR ah))) (Kd.S_lt (zT aj))) (below_size (zb HB)))
      have a9 := zK (blk_below (g := ad) (o := .cells #[.slice ap ae.length aq, .int .i64 a0_1, .slice ar af.length au, .slice av ag.length aw] 43 (0, 0)) (zk aa) hb)
      have ba := zK (blk_below (g := ab) (o := .cells #[.slice aB ak.length aA, .int .i64 ao, .slice aE am.length aD, .slice aI an.length aF] 28 (0, 0)) (zk ac) hb)
      have bg := zK (below_step (zb HB) hb)
      clear ah ai aj aa ac HB; have ah := aG; have ai := aH; have aj := aM; have aS := aN; have aT := aP; have aU := a5; have aa := a9; have ac := ba; have HB := bg; clear aG aH aM aN aP a5 a9 ba bg; (try clear hb); (try clear hb2); (try clear hk); (try clear hi); (try clear ho0); (try clear ho1); (try clear ho2)
      obtain ⟨Ao38, co38, cm⟩ := Kd.R_slice aS.out
      (first | subst cm | (injection cm with f1_ f2_ f3_; have f4_ := f1_.symm; have f5_ := f3_.symm; clear f1_ f2_ f3_; subst f4_; subst f5_))
      obtain ⟨Ao39, co39, cn⟩ := Kd.S_slice aT.out
      (first | subst cn | (injection cn with f1_ f2_ f3_; have f4_ := f1_.symm; have f5_ := f3_.symm; clear f1_ f2_ f3_; subst f4_; subst f5_))
      obtain ⟨Ao40, co40, co⟩ := Kd.S_slice aU.out
      (first | subst co | (injection co with f1_ f2_ f3_; have f4_ := f1_.symm; have f5_ := f3_.symm; clear f1_ f2_ f3_; subst f4_; subst f5_))
      refine hK.out _ _ ⟨(blk_cell ac.out 0).trans rfl, (blk_cell ac.out 1).trans rfl, (blk_cell ac.out 2).trans rfl, (blk_cell ac.out 3).trans rfl, (blk_cell aa.out 0).trans rfl, (blk_cell aa.out 1).trans rfl, (blk_cell aa.out 2).trans rfl, (blk_cell aa.out 3).trans rfl⟩ (fun hHeld => ?_)
      clear hK K
      refine norm_ (a' := ?_) ?_ ?_
      rotate_left
      ·show Act.put _ (some 41) _ = _
       simp only [Act.put, zp, zq, zr, i64_w, i32_w]
       rfl
      refine one_ (i := 3) (N := some 42) #[tt, tt, tt, tt, ff] rfl rfl (by kernel_rfl) (by decide) (fun K hK => ?_)
      refine goes_ Try.func33 (by kernel_rfl) rfl #[.agg #[.slice aB ak.length aA, .int .i64 ao, .slice aE am.length aD, .slice aI an.length aF], .agg #[.slice Ao38 bQ.length co38, .int .i64 bR, .slice Ao39 bS.length co39, .slice Ao40 bT.length co40]] (by rfl) rfl rfl (by (try simp only [List.map_toArray, List.map_cons, List.map_nil]); first | done | rfl | (simp only [List.length_drop, List.length_take]; rfl)) ?_
      with_reducible refine (laws_eqLoop.calls kj11 _ _ ak ao _ _ am _ _ an _ _ bQ bR _ _ bS _ _ bT true _ ?side1 ?side2 ?side3 ?side4 ?side5 ?side6 ?side7 ?side8 ?side9 ?side10 ?side11 ?side12 A34.out).mono ?_
      (case side1 => repeat (first | exact (Kd.R_reads' ah.out).2.2 | (with_reducible refine Kd.C_alloc ?_ _) | (with_reducible refine Kd.C_drewN ?_ _) | (with_reducible refine Kd.C_drew ?_)))
      (case side2 => exact (Kd.R_reads' ah.out).2.1)
      (case side3 => repeat (first | exact (Kd.S_reads' ai.out).2.2 | (with_reducible refine Kd.C_alloc ?_ _) | (with_reducible refine Kd.C_drewN ?_ _) | (with_reducible refine Kd.C_drew ?_)))
      (case side4 => exact (Kd.S_reads' ai.out).2.1)
      (case side5 => repeat (first | exact (Kd.S_reads' aj.out).2.2 | (with_reducible refine Kd.C_alloc ?_ _) | (with_reducible refine Kd.C_drewN ?_ _) | (with_reducible refine Kd.C_drew ?_)))
      (case side6 => exact (Kd.S_reads' aj.out).2.1)
      (case side7 => repeat (first | exact (Kd.R_reads' aS.out).2.2 | (with_reducible refine Kd.C_alloc ?_ _) | (with_reducible refine Kd.C_drewN ?_ _) | (with_reducible refine Kd.C_drew ?_)))
      (case side8 => exact (Kd.R_reads' aS.out).2.1)
      (case side9 => repeat (first | exact (Kd.S_reads' aT.out).2.2 | (with_reducible refine Kd.C_alloc ?_ _) | (with_reducible refine Kd.C_drewN ?_ _) | (with_reducible refine Kd.C_drew ?_)))
      (case side10 => exact (Kd.S_reads' aT.out).2.1)
      (case side11 => repeat (first | exact (Kd.S_reads' aU.out).2.2 | (with_reducible refine Kd.C_alloc ?_ _) | (with_reducible refine Kd.C_drewN ?_ _) | (with_reducible refine Kd.C_drew ?_)))
      (case side12 => exact (Kd.S_reads' aU.out).2.1)
      rintro e w41 ⟨rfl, hb⟩
      refine ⟨_, rfl, ?_⟩
      have aG := zK (Kd.R_below (zR ah) hb)
      have aH := zK (Kd.S_below (zT ai) hb)
      have aM := zK (Kd.S_below (zT aj) hb)
      have aN := zK (Kd.R_below (zR aS) hb)
      have aP := zK (Kd.S_below (zT aT) hb)
      have a5 := zK (Kd.S_below (zT aU) hb)
      have a9 := zK (blk_below (g := ad) (o := .cells #[.slice ap ae.length aq, .int .i64 a0_1, .slice ar af.length au, .slice av ag.length aw] 43 (0, 0)) (zk aa) hb)
      have ba := zK (blk_below (g := ab) (o := .cells #[.slice aB ak.length aA, .int .i64 ao, .slice aE am.length aD, .slice aI an.length aF] 28 (0, 0)) (zk ac) hb)
      have bg := zK (below_step (zb HB) hb)
      clear ah ai aj aS aT aU aa ac HB; have ah := aG; have ai := aH; have aj := aM; have aS := aN; have aT := aP; have aU := a5; have aa := a9; have ac := ba; have HB := bg; clear aG aH aM aN aP a5 a9 ba bg; (try clear hb); (try clear hb2); (try clear hk); (try clear hi)
      refine hK.out _ _ ⟨(blk_cell ac.out 0).trans rfl, (blk_cell ac.out 1).trans rfl, (blk_cell ac.out 2).trans rfl, (blk_cell ac.out 3).trans rfl, (blk_cell aa.out 0).trans rfl, (blk_cell aa.out 1).trans rfl, (blk_cell aa.out 2).trans rfl, (blk_cell aa.out 3).trans rfl⟩ (fun hHeld => ?_)
      clear hK K
      refine norm_ (a' := ?_) ?_ ?_
      rotate_left
      ·show Act.put _ (some 42) _ = _
       simp only [Act.put, zp, zq, zr, i64_w, i32_w]
       rfl
      refine zu 4 (some 43) #[tt, tt, tt, tt, tt] (by kernel_rfl) ?_
      refine done_ (by kernel_rfl) ?_
      try go_wp2
      go_ret
      exact ⟨by first | rfl | (simp [errW_none, errW_some] <;> rfl) | (simp [*, errW_none, errW_some] <;> rfl), by repeat (first | (with_reducible first | exact HB.out | apply zB | apply zC | apply zE | refine zS ?_ al.out | refine zS ?_ aO.out) | exact HB.out)⟩
     ·replace c35 := Bool.eq_false_iff.mpr c35
      subst c35
      have H1 : (some false) = some r := by rw [if_neg (show ¬ (false = true) by decide)] at H; exact H
      clear H; have H := H1; clear H1
      exact absurd (H.trans (congrArg some hrt.out)) (by simp)
end Go.Proofs.Ytmjhbdmicejppaa.Px
