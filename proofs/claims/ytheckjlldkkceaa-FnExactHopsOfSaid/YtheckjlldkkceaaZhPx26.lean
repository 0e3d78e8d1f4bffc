import Derived.Test.YtheckjlldkkceaaZhPx0
import Derived.Test.YtheckjlldkkceaaZhPx4
import Derived.Test.YtheckjlldkkceaaZhPx16
import Derived.Test.YtheckjlldkkceaaZhPx17
namespace Go.Proofs.Ytheckjlldkkceaa.Px
open Go.RowKit Go.Proofs.YtheckjlldkkceaaW.PrintWords Go.Proofs.YtheckjlldkkceaaW.PrintLast Go.Proofs.YtheckjlldkkceaaW.PrintMore
attribute [local go_sem] max2_int min2_int max_two min_two max_three min_three max_four min_four   
set_option linter.unusedVariables false
set_option linter.unusedSimpArgs false
def laws_FnExactHopsOf.j0 : Nat → Bool → Int → List (List (S98)) → Int → List (List (S30)) → Option (Bool)
 | 0, _, _, _, _, _ => none
 | k + 1, x34, x883000, x883001, x895000, x895001 => if x34 = true then (some false) else ((laws_toStore.f k x883000 x883001).bind fun bt897 => ((laws_eqStore.f k x895000 x895001 bt897.1 bt897.2).bind fun t901 => (if t901 = true then (some true) else (some false))))
def laws_FnExactHopsOf.f (k : Nat) (a0_0 : Int) (l0_1 : List (List (S98))) : Option (Bool) := (laws_szStore.f k a0_0 l0_1 1048576).bind fun t883 => (if t883 < 0 then (some true) else ((laws_toStore.f k a0_0 l0_1).bind fun bt884 => ((spec_HopsOf.f k bt884.1 bt884.2).bind fun bt888 => ((laws_toStore.f k a0_0 l0_1).bind fun bt890 => ((impl_HopsOf.f k bt890.1 bt890.2).bind fun bt895 => (if bt895.1 = bt888.1 then (laws_FnExactHopsOf.j0 k (bt895.2 != bt888.2) a0_0 l0_1 bt890.1 bt890.2) else (laws_FnExactHopsOf.j0 k true a0_0 l0_1 bt890.1 bt890.2)))))))
set_option maxHeartbeats 8000000 in
set_option maxRecDepth 100000 in
theorem laws_FnExactHopsOf.calls (k : Nat) (a0_0 : Int) (aj : Option Addr) (ak : Nat) (ab : List (List (S98))) (r : Bool) (w : World) (a9 : Kd.C (Kd.slice 98 k98) w aj ab.length ab) (hc0_1 : ab.length ≤ ak) (hrt : Aside0 (r = true)) (h : laws_FnExactHopsOf.f k a0_0 ab = some r) :
  Calls Try.prog 12 #[.agg #[.int .i64 a0_0, .slice aj ab.length ak]] w fun e w' => e = .returned (.bool r) ∧ Below w.heap.size w w' := by
 have hu36 := Try.underlying36; have hu24 := Try.underlying24; have aB := zK a9; have aC := zK hc0_1; clear a9 hc0_1
 have HB := zK (Below.refl w.heap.size w)
 have H : ((laws_szStore.f k a0_0 ab 1048576).bind fun aD => (if aD < 0 then (some true) else ((laws_toStore.f k a0_0 ab).bind fun bt884 => ((spec_HopsOf.f k bt884.1 bt884.2).bind fun bt888 => ((laws_toStore.f k a0_0 ab).bind fun bt890 => ((impl_HopsOf.f k bt890.1 bt890.2).bind fun bt895 => (if bt895.1 = bt888.1 then (laws_FnExactHopsOf.j0 k (bt895.2 != bt888.2) a0_0 ab bt890.1 bt890.2) else (laws_FnExactHopsOf.j0 k true a0_0 ab bt890.1 bt890.2)))))))) = some r := h
 clear h; replace H := Option.bind_eq_some_iff.mp H
 obtain ⟨aD, A20, H⟩ := H
 replace H : (if aD < 0 then (some true) else ((laws_toStore.f k a0_0 ab).bind fun bt884 => ((spec_HopsOf.f k bt884.1 bt884.2).bind fun bt888 => ((laws_toStore.f k a0_0 ab).bind fun bt890 => ((impl_HopsOf.f k bt890.1 bt890.2).bind fun bt895 => (if bt895.1 = bt888.1 then (laws_FnExactHopsOf.j0 k (bt895.2 != bt888.2) a0_0 ab bt890.1 bt890.2) else (laws_FnExactHopsOf.j0 k true a0_0 ab bt890.1 bt890.2))))))) = some r := H
 have A2 := zK A20; clear A20
 by_cases c3 : aD < 0
 ·rw [if_pos c3] at H
  have bj : decide (aD < 0) = true := decide_eq_true c3
  clear c3; obtain rfl := Option.some.inj H
  go_enter Try.func12, Try.ntmps12
  go_wp2_with (first | ((with_reducible refine gate_dst (N := 1) rfl ?_); refine box_event ?hg (N := 1) ?hd (cs := #[.int .i64 a0_0, .slice aj ab.length ak]) (t := 36) ?hr ?_; (case hd => rfl); (case hg => rfl); (case hr => first | (go_simp; done) | (go_simp; rfl)); intro ad hg w4 hbox hb; have am := zK (below_step (by repeat (first | (with_reducible first | exact HB.out | apply zB | apply zC | apply zE) | exact HB.out)) hb); have an := zK (hbox); have ap := zK ((by rw [hg]; exact (below_size (by repeat (first | (with_reducible first | exact HB.out | apply zB | apply zC | apply zE) | exact HB.out))) : w.heap.size ≤ ad)); have av := zK ((by rw [hg]; exact (below_size (by repeat (first | (with_reducible first | exact HB.out | apply zB | apply zC | apply zE) | exact HB.out))) : w.heap.size ≤ ad)); clear HB; have HB := am; have aa := an; have bk := ap; have ag := av; clear am an ap av; clear hb hbox hg; have bc : w4.cell? ⟨ad, 0, none⟩ = some (.int .i64 a0_0) := (blk_cell aa.out 0).trans rfl; have bd : w4.cell? ⟨ad, 1, none⟩ = some (.slice aj ab.length ak) := (blk_cell aa.out 1).trans rfl; have be := blk_frozen aa.out 0; have bf := blk_frozen aa.out 1) | ((with_reducible refine gate_callee (f := 20) rfl ?_); refine goesL_ (some 11) rfl rfl Try.func20 (by kernel_rfl) rfl #[.agg #[.int .i64 a0_0, .slice aj ab.length ak], .int .i64 1048576] rfl (by (try simp only [List.map_toArray, List.map_cons, List.map_nil]); first | done | rfl | (simp only [List.length_drop, List.length_take]; rfl)) ?_; (with_reducible refine (laws_szStore.calls k a0_0 _ _ ab 1048576 aD _ ?side1 ?side2 A2.out).mono ?_); (case side1 => repeat (first | exact (Kd.C_below aB.out HB.out) | (with_reducible refine Kd.C_alloc ?_ _) | (with_reducible refine Kd.C_drewN ?_ _) | (with_reducible refine Kd.C_drew ?_))); (case side2 => exact aC.out); rintro e w6 ⟨rfl, hb⟩; refine ⟨_, rfl, ?_⟩; have am := zK (blk_below (g := ad) (o := .cells #[.int .i64 a0_0, .slice aj ab.length ak] 36 (0, 0)) (by (with_reducible repeat (first | refine zN ?_ _ | refine zD ?_ | refine zA ?_ _)); exact aa.out) hb); have an := zK (below_step (by repeat (first | (with_reducible first | exact HB.out | apply zB | apply zC | apply zE | refine zS ?_ ag.out) | exact HB.out)) hb); clear aa; clear HB; have aa := am; have HB := an; clear am an; (try clear hb)))
  go_ret
  exact ⟨by first | rfl | (simp [errW_none, errW_some] <;> rfl) | (simp [*, errW_none, errW_some] <;> rfl), by repeat (first | (with_reducible first | exact HB.out | apply zB | apply zC | apply zE | refine zS ?_ ag.out) | exact HB.out)⟩
 ·rw [if_neg c3] at H
  have bj : decide (aD < 0) = false := decide_eq_false c3
  clear c3; replace H := Option.bind_eq_some_iff.mp H
  obtain ⟨⟨aK, aE⟩, A70, H⟩ := H
  replace H : ((spec_HopsOf.f k aK aE).bind fun bt888 => ((laws_toStore.f k a0_0 ab).bind fun bt890 => ((impl_HopsOf.f k bt890.1 bt890.2).bind fun bt895 => (if bt895.1 = bt888.1 then (laws_FnExactHopsOf.j0 k (bt895.2 != bt888.2) a0_0 ab bt890.1 bt890.2) else (laws_FnExactHopsOf.j0 k true a0_0 ab bt890.1 bt890.2))))) = some r := H
  have A7 := zK A70; clear A70; replace H := Option.bind_eq_some_iff.mp H
  obtain ⟨⟨az, aJ⟩, A80, H⟩ := H
  replace H : ((laws_toStore.f k a0_0 ab).bind fun bt890 => ((impl_HopsOf.f k bt890.1 bt890.2).bind fun bt895 => (if bt895.1 = az then (laws_FnExactHopsOf.j0 k (bt895.2 != aJ) a0_0 ab bt890.1 bt890.2) else (laws_FnExactHopsOf.j0 k true a0_0 ab bt890.1 bt890.2)))) = some r := H
  have A8 := zK A80; clear A80; replace H := Option.bind_eq_some_iff.mp H
  obtain ⟨⟨al, ah⟩, A90, H⟩ := H
  replace H : ((impl_HopsOf.f k al ah).bind fun bt895 => (if bt895.1 = az then (laws_FnExactHopsOf.j0 k (bt895.2 != aJ) a0_0 ab al ah) else (laws_FnExactHopsOf.j0 k true a0_0 ab al ah))) = some r := H
  have A9 := zK A90; clear A90; replace H := Option.bind_eq_some_iff.mp H
  obtain ⟨⟨aF, bg⟩, bl, H⟩ := H
  replace H : (if aF = az then (laws_FnExactHopsOf.j0 k (bg != aJ) a0_0 ab al ah) else (laws_FnExactHopsOf.j0 k true a0_0 ab al ah)) = some r := H
  have A10 := zK bl; clear bl; have bh := zK H; clear H
  go_enter Try.func12, Try.ntmps12
  go_upto_region 8 with (first | ((with_reducible refine gate_dst (N := 1) rfl ?_); refine box_event ?hg (N := 1) ?hd (cs := #[.int .i64 a0_0, .slice aj ab.length ak]) (t := 36) ?hr ?_; (case hd => rfl); (case hg => rfl); (case hr => first | (go_simp; done) | (go_simp; rfl)); intro ad hg w12 hbox hb; have am := zK (below_step (by repeat (first | (with_reducible first | exact HB.out | apply zB | apply zC | apply zE) | exact HB.out)) hb); have an := zK (hbox); have ap := zK ((by rw [hg]; exact (below_size (by repeat (first | (with_reducible first | exact HB.out | apply zB | apply zC | apply zE) | exact HB.out))) : w.heap.size ≤ ad)); have av := zK ((by rw [hg]; exact (below_size (by repeat (first | (with_reducible first | exact HB.out | apply zB | apply zC | apply zE) | exact HB.out))) : w.heap.size ≤ ad)); clear HB; have HB := am; have aa := an; have bk := ap; have ag := av; clear am an ap av; clear hb hbox hg; have aL : w12.cell? ⟨ad, 0, none⟩ = some (.int .i64 a0_0) := (blk_cell aa.out 0).trans rfl; have aM : w12.cell? ⟨ad, 1, none⟩ = some (.slice aj ab.length ak) := (blk_cell aa.out 1).trans rfl; have aN := blk_frozen aa.out 0; have aO := blk_frozen aa.out 1) | ((with_reducible refine gate_callee (f := 20) rfl ?_); refine goesL_ (some 11) rfl rfl Try.func20 (by kernel_rfl) rfl #[.agg #[.int .i64 a0_0, .slice aj ab.length ak], .int .i64 1048576] rfl (by (try simp only [List.map_toArray, List.map_cons, List.map_nil]); first | done | rfl | (simp only [List.length_drop, List.length_take]; rfl)) ?_; (with_reducible refine (laws_szStore.calls k a0_0 _ _ ab 1048576 aD _ ?side1 ?side2 A2.out).mono ?_); (case side1 => repeat (first | exact (Kd.C_below aB.out HB.out) | (with_reducible refine Kd.C_alloc ?_ _) | (with_reducible refine Kd.C_drewN ?_ _) | (with_reducible refine Kd.C_drew ?_))); (case side2 => exact aC.out); rintro e w14 ⟨rfl, hb⟩; refine ⟨_, rfl, ?_⟩; have am := zK (blk_below (g := ad) (o := .cells #[.int .i64 a0_0, .slice aj ab.length ak] 36 (0, 0)) (by (with_reducible repeat (first | refine zN ?_ _ | refine zD ?_ | refine zA ?_ _)); exact aa.out) hb); have an := zK (below_step (by repeat (first | (with_reducible first | exact HB.out | apply zB | apply zC | apply zE | refine zS ?_ ag.out) | exact HB.out)) hb); clear aa; clear HB; have aa := am; have HB := an; clear am an; (try clear hb); (try clear hk); have aP : w14.cell? ⟨ad, 0, none⟩ = some (.int .i64 a0_0) := (blk_cell aa.out 0).trans rfl; have aQ : w14.cell? ⟨ad, 1, none⟩ = some (.slice aj ab.length ak) := (blk_cell aa.out 1).trans rfl; have aR := blk_frozen aa.out 0; have aS := blk_frozen aa.out 1) | ((with_reducible refine gate_callee (f := 21) rfl ?_); refine goesL_ (some 16) rfl rfl Try.func21 (by kernel_rfl) rfl #[.agg #[.int .i64 a0_0, .slice aj ab.length ak]] rfl (by (try simp only [List.map_toArray, List.map_cons, List.map_nil]); first | done | rfl | (simp only [List.length_drop, List.length_take]; rfl)) ?_; (with_reducible refine (laws_toStore.calls k a0_0 _ _ ab aK aE _ ?side1 ?side2 A7.out).mono ?_); (case side1 => repeat (first | exact (Kd.C_below aB.out HB.out) | (with_reducible refine Kd.C_alloc ?_ _) | (with_reducible refine Kd.C_drewN ?_ _) | (with_reducible refine Kd.C_drew ?_))); (case side2 => exact aC.out); rintro e w16 ⟨v886, rfl, ho0, hb⟩; refine ⟨_, rfl, ?_⟩; have am := zK (Kd.S_lower ho0 (below_size (by repeat (first | (with_reducible first | exact HB.out | apply zB | apply zC | apply zE | refine zS ?_ ag.out) | exact HB.out)))); have an := zK (blk_below (g := ad) (o := .cells #[.int .i64 a0_0, .slice aj ab.length ak] 36 (0, 0)) (by (with_reducible repeat (first | refine zN ?_ _ | refine zD ?_ | refine zA ?_ _)); exact aa.out) hb); have ap := zK (below_step (by repeat (first | (with_reducible first | exact HB.out | apply zB | apply zC | apply zE | refine zS ?_ ag.out) | exact HB.out)) hb); clear aa; clear HB; have ai := am; have aa := an; have HB := ap; clear am an ap; (try clear hb); (try clear hk); (try clear ho0); obtain ⟨aT, aU, eo17⟩ := Kd.S_slice ai.out; subst eo17) | ((with_reducible refine gate_callee (f := 42) rfl ?_); refine goesL_ (some 17) rfl rfl Try.func42 (by kernel_rfl) rfl #[.agg #[.int .i64 aK, .slice aT aE.length aU]] rfl (by (try simp only [List.map_toArray, List.map_cons, List.map_nil]); first | done | rfl | (simp only [List.length_drop, List.length_take]; rfl)) ?_; (with_reducible refine (spec_HopsOf.calls k aK (fun k_ => (True ∧ k_ ≠ ad)) _ _ aE az aJ _ ?side1 A8.out).mono ?_); (case side1 => exact Kd.S_V (Kd.S_types (ai.out) aa.out (by decide))); rintro e w18 ⟨rfl, hb⟩; refine ⟨_, rfl, ?_⟩; have am := zK (Kd.S_below (by (with_reducible repeat (first | apply Kd.S_alloc | apply Kd.S_drewN | apply Kd.S_drew)); exact ai.out) hb); have an := zK (blk_below (g := ad) (o := .cells #[.int .i64 a0_0, .slice aj ab.length ak] 36 (0, 0)) (by (with_reducible repeat (first | refine zN ?_ _ | refine zD ?_ | refine zA ?_ _)); exact aa.out) hb); have ap := zK (below_step (by repeat (first | (with_reducible first | exact HB.out | apply zB | apply zC | apply zE | refine zS ?_ ag.out) | exact HB.out)) hb); clear ai; clear aa; clear HB; have ai := am; have aa := an; have HB := ap; clear am an ap; (try clear hb); (try clear hk); have aV : w18.cell? ⟨ad, 0, none⟩ = some (.int .i64 a0_0) := (blk_cell aa.out 0).trans rfl; have aW : w18.cell? ⟨ad, 1, none⟩ = some (.slice aj ab.length ak) := (blk_cell aa.out 1).trans rfl; have aX := blk_frozen aa.out 0; have aY := blk_frozen aa.out 1) | ((with_reducible refine gate_callee (f := 21) rfl ?_); refine goesL_ (some 21) rfl rfl Try.func21 (by kernel_rfl) rfl #[.agg #[.int .i64 a0_0, .slice aj ab.length ak]] rfl (by (try simp only [List.map_toArray, List.map_cons, List.map_nil]); first | done | rfl | (simp only [List.length_drop, List.length_take]; rfl)) ?_; (with_reducible refine (laws_toStore.calls k a0_0 _ _ ab al ah _ ?side1 ?side2 A9.out).mono ?_); (case side1 => repeat (first | exact (Kd.C_below aB.out HB.out) | (with_reducible refine Kd.C_alloc ?_ _) | (with_reducible refine Kd.C_drewN ?_ _) | (with_reducible refine Kd.C_drew ?_))); (case side2 => exact aC.out); rintro e w20 ⟨v892, rfl, ho0, hb⟩; refine ⟨_, rfl, ?_⟩; have am := zK (Kd.S_elder' (by (with_reducible repeat (first | apply Kd.S_alloc | apply Kd.S_drewN | apply Kd.S_drew)); exact ai.out) (Kd.S_base ho0) hb); have an := zK (Kd.S_lower (Kd.S_new' ho0 (Kd.S_lt (by (with_reducible repeat (first | apply Kd.S_alloc | apply Kd.S_drewN | apply Kd.S_drew)); exact ai.out))) (below_size (by repeat (first | (with_reducible first | exact HB.out | apply zB | apply zC | apply zE | refine zS ?_ ag.out) | exact HB.out)))); have ap := zK (blk_below (g := ad) (o := .cells #[.int .i64 a0_0, .slice aj ab.length ak] 36 (0, 0)) (by (with_reducible repeat (first | refine zN ?_ _ | refine zD ?_ | refine zA ?_ _)); exact aa.out) hb); have av := zK (below_step (by repeat (first | (with_reducible first | exact HB.out | apply zB | apply zC | apply zE | refine zS ?_ ag.out) | exact HB.out)) hb); clear ai; clear aa; clear HB; have ai := am; have ao := an; have aa := ap; have HB := av; clear am an ap av; (try clear hb); (try clear hk); (try clear ho0)) | ((with_reducible refine gate_dst (N := 6) rfl ?_); refine box_event ?hg (N := 6) ?hd (cs := #[.int .i64 0, .slice none 0 0]) (t := 24) ?hr ?_; (case hd => rfl); (case hg => rfl); (case hr => first | (go_simp; done) | (go_simp; rfl)); intro af hg w21 hbox hb; have am := zK (Kd.S_below (by (with_reducible repeat (first | apply Kd.S_alloc | apply Kd.S_drewN | apply Kd.S_drew)); exact ai.out) hb); have an := zK (Kd.S_below (by (with_reducible repeat (first | apply Kd.S_alloc | apply Kd.S_drewN | apply Kd.S_drew)); exact ao.out) hb); have ap := zK (blk_below (g := ad) (o := .cells #[.int .i64 a0_0, .slice aj ab.length ak] 36 (0, 0)) (by (with_reducible repeat (first | refine zN ?_ _ | refine zD ?_ | refine zA ?_ _)); exact aa.out) hb); have av := zK (below_step (by repeat (first | (with_reducible first | exact HB.out | apply zB | apply zC | apply zE | refine zS ?_ ag.out) | exact HB.out)) hb); have aG := zK (hbox); have n5_ := zK ((by rw [hg]; exact (below_size (by repeat (first | (with_reducible first | exact HB.out | apply zB | apply zC | apply zE | refine zS ?_ ag.out) | exact HB.out))) : w.heap.size ≤ af)); have n6_ := zK ((by rw [hg]; exact (below_size (by repeat (first | (with_reducible first | exact HB.out | apply zB | apply zC | apply zE | refine zS ?_ ag.out) | exact HB.out))) : w.heap.size ≤ af)); have n7_ := zK ((by rw [hg]; exact Nat.ne_of_lt (blk_lt (g := ad) (o := .cells #[.int .i64 a0_0, .slice aj ab.length ak] 36 (0, 0)) (by (with_reducible repeat (first | refine zN ?_ _ | refine zD ?_ | refine zA ?_ _)); exact aa.out)) : ad ≠ af)); have n8_ := zK ((by rw [hg]; exact Nat.ne_of_gt (blk_lt (g := ad) (o := .cells #[.int .i64 a0_0, .slice aj ab.length ak] 36 (0, 0)) (by (with_reducible repeat (first | refine zN ?_ _ | refine zD ?_ | refine zA ?_ _)); exact aa.out)) : af ≠ ad)); clear ai; clear ao; clear aa; clear HB; have ai := am; have ao := an; have aa := ap; have HB := av; have ac := aG; have GW894 := n5_; have aw := n6_; have au := n7_; have aH := n8_; clear am an ap av aG n5_ n6_ n7_ n8_; clear hb hbox hg; have hnb22 := aH.out; have hnc22 := au.out; have aZ : w21.cell? ⟨af, 0, none⟩ = some (.int .i64 0) := (blk_cell ac.out 0).trans rfl; have a0 : w21.cell? ⟨af, 1, none⟩ = some (.slice none 0 0) := (blk_cell ac.out 1).trans rfl; have a1 := blk_frozen ac.out 0; have a2 := blk_frozen ac.out 1; obtain ⟨aq, ar, eo24⟩ := Kd.S_slice ao.out; subst eo24) | ((with_reducible refine gate_store (t := 24) (p := 6) rfl ?_); refine store_event (t := 24) (p := 6) (v := ?vo_w25) (w1 := ((w21.setCell ⟨af, 0, none⟩ (.int .i64 al)).setCell ⟨af, 1, none⟩ (.slice aq ah.length ar))) ?hg ?ho ?hn ?hr ?_; (case ho => rfl); (case hg => rfl); (case hn => rfl); (case hr => first | (go_simp; done) | (go_simp; rfl)); intro bi hw; have am : Aside0 (Kd.S (Kd.slice 30 k30) 28 bi w.heap.size (fun k_ => some k_ ≠ (.slice aq ah.length ar : Value).ownBlock) (.slice aT aE.length aU) aE) := ⟨(by rw [hw]; exact (by (with_reducible repeat (first | apply Kd.S_alloc | apply Kd.S_drewN | apply Kd.S_drew)); exact Kd.S_mono (Kd.S_far (p := ⟨af, 1, none⟩) (Kd.S_far (p := ⟨af, 0, none⟩) (Kd.S_types ai.out ac.out (by decide)) (fun _ hk => hk.2) (.int .i64 al)) (fun _ hk => hk.2) (.slice aq ah.length ar)) (fun _ hk => hk.1.2)))⟩; have an : Aside0 (Kd.S (Kd.slice 30 k30) 28 bi w.heap.size (fun k_ => some k_ ≠ (.slice aT aE.length aU : Value).ownBlock) (.slice aq ah.length ar) ah) := ⟨(by rw [hw]; exact (by (with_reducible repeat (first | apply Kd.S_alloc | apply Kd.S_drewN | apply Kd.S_drew)); exact Kd.S_mono (Kd.S_far (p := ⟨af, 1, none⟩) (Kd.S_far (p := ⟨af, 0, none⟩) (Kd.S_types ao.out ac.out (by decide)) (fun _ hk => hk.2) (.int .i64 al)) (fun _ hk => hk.2) (.slice aq ah.length ar)) (fun _ hk => hk.1.2)))⟩; have ap : Aside0 (bi.heap[ad]? = some (.cells #[.int .i64 a0_0, .slice aj ab.length ak] 36 (0, 0))) := ⟨(by rw [hw]; exact (by (with_reducible repeat (first | refine zN ?_ _ | refine zD ?_ | refine zA ?_ _)); refine blk_far ?_ au.out _; (with_reducible repeat (first | refine zN ?_ _ | refine zD ?_ | refine zA ?_ _)); refine blk_far ?_ au.out _; (with_reducible repeat (first | refine zN ?_ _ | refine zD ?_ | refine zA ?_ _)); exact aa.out))⟩; have av : Aside0 (bi.heap[af]? = some (.cells #[.int .i64 al, .slice aq ah.length ar] 24 (0, 0))) := ⟨(by rw [hw]; exact (by (with_reducible repeat (first | refine zN ?_ _ | refine zD ?_ | refine zA ?_ _)); refine blk_put (cs := #[.int .i64 al, .slice none 0 0]) ?_ 1 _ rfl; (with_reducible repeat (first | refine zN ?_ _ | refine zD ?_ | refine zA ?_ _)); refine blk_put (cs := #[.int .i64 0, .slice none 0 0]) ?_ 0 _ rfl; (with_reducible repeat (first | refine zN ?_ _ | refine zD ?_ | refine zA ?_ _)); exact ac.out))⟩; have aG : Aside0 (Below w.heap.size w bi) := ⟨(by rw [hw]; exact (by repeat (first | (with_reducible first | exact HB.out | apply zB | apply zC | apply zE | refine zS ?_ ag.out | refine zS ?_ aw.out) | exact HB.out)))⟩; clear hw; clear ai; clear ao; clear aa; clear ac; clear HB; have ai := am; have ao := an; have aa := ap; have ac := av; have HB := aG; clear am an ap av aG; have a3 : bi.cell? ⟨af, 0, none⟩ = some (.int .i64 al) := (blk_cell ac.out 0).trans rfl; have a4 : bi.cell? ⟨af, 1, none⟩ = some (.slice aq ah.length ar) := (blk_cell ac.out 1).trans rfl; have a5 := blk_frozen ac.out 0; have a6 := blk_frozen ac.out 1) | ((with_reducible refine gate_callee (f := 41) rfl ?_); refine goesL_ (some 24) rfl rfl Try.func41 (by kernel_rfl) rfl #[.agg #[.int .i64 al, .slice aq ah.length ar]] rfl (by (try simp only [List.map_toArray, List.map_cons, List.map_nil]); first | done | rfl | (simp only [List.length_drop, List.length_take]; rfl)) ?_; (with_reducible refine (impl_HopsOf.calls k al (fun k_ => ((some k_ ≠ (.slice aT aE.length aU : Value).ownBlock ∧ k_ ≠ ad) ∧ k_ ≠ af)) _ _ ah aF bg _ ?side1 A10.out).mono ?_); (case side1 => exact Kd.S_V (Kd.S_types (Kd.S_types (ao.out) aa.out (by decide)) ac.out (by decide))); rintro e w27 ⟨rfl, hb⟩; refine ⟨_, rfl, ?_⟩; have am := zK (Kd.S_below (by (with_reducible repeat (first | apply Kd.S_alloc | apply Kd.S_drewN | apply Kd.S_drew)); exact ai.out) hb); have an := zK (Kd.S_below (by (with_reducible repeat (first | apply Kd.S_alloc | apply Kd.S_drewN | apply Kd.S_drew)); exact ao.out) hb); have ap := zK (blk_below (g := ad) (o := .cells #[.int .i64 a0_0, .slice aj ab.length ak] 36 (0, 0)) (by (with_reducible repeat (first | refine zN ?_ _ | refine zD ?_ | refine zA ?_ _)); exact aa.out) hb); have av := zK (blk_below (g := af) (o := .cells #[.int .i64 al, .slice aq ah.length ar] 24 (0, 0)) (by (with_reducible repeat (first | refine zN ?_ _ | refine zD ?_ | refine zA ?_ _)); exact ac.out) hb); have aG := zK (below_step (by repeat (first | (with_reducible first | exact HB.out | apply zB | apply zC | apply zE | refine zS ?_ ag.out | refine zS ?_ aw.out) | exact HB.out)) hb); clear ai; clear ao; clear aa; clear ac; clear HB; have ai := am; have ao := an; have aa := ap; have ac := av; have HB := aG; clear am an ap av aG; (try clear hb); (try clear hk)))
  (try simp only [Act.put, zp, zq, zr])
  go_cut [34] (fun v34 wc => ∃ (kq : Nat) (aA : Bool), v34 = .bool aA ∧ Aside0 (laws_FnExactHopsOf.j0 kq aA a0_0 ab al ah = some r) ∧ Aside0 (kq ≤ k) ∧ Aside0 (Kd.S (Kd.slice 30 k30) 28 wc w.heap.size (fun _ => True) (.slice aq ah.length ar) ah) ∧ Aside0 (wc.heap[ad]? = some (.cells #[.int .i64 a0_0, (.slice aj ab.length ak)] 36 (0, 0))) ∧ Aside0 (wc.heap[af]? = some (.cells #[.int .i64 al, (.slice aq ah.length ar)] 24 (0, 0))) ∧ Aside0 (Below w.heap.size w wc))
  case first =>
   have H := bh.out; clear bh
   by_cases ba : aF = az
   ·rw [if_pos ba] at H
    have ax : (aF == az) = true := beq_iff_eq.mpr ba
    have bb : (aF != az) = false := bne_eq_false_iff_eq.mpr ba
    clear ba
    (first | rw [ax] | (simp only [i64_w, i32_w]; rw [ax]) | skip)
    have H' := zK H; clear H
    go_wp2
    go_meet
    case rel => exact ⟨_, ((bg != aJ)), (by first | rfl | (simp; done) | (simp [*]; done)), H', ⟨by first | omega | exact Nat.le_refl _⟩, ⟨by (with_reducible repeat (first | apply Kd.S_alloc | apply Kd.S_drewN | apply Kd.S_drew)); exact Kd.S_mono ao.out (fun _ hk => trivial)⟩, ⟨by (with_reducible repeat (first | refine zN ?_ _ | refine zD ?_ | refine zA ?_ _)); exact aa.out⟩, ⟨by (with_reducible repeat (first | refine zN ?_ _ | refine zD ?_ | refine zA ?_ _)); exact ac.out⟩, ⟨by repeat (first | (with_reducible first | exact HB.out | apply zB | apply zC | apply zE | refine zS ?_ ag.out | refine zS ?_ aw.out) | exact HB.out)⟩⟩
   ·rw [if_neg ba] at H
    have ax : (aF == az) = false := beq_eq_false_iff_ne.mpr ba
    have bb : (aF != az) = true := bne_iff_ne.mpr ba
    (first | rw [ax] | (simp only [i64_w, i32_w]; rw [ax]) | skip)
    exact absurd (H.trans (congrArg some hrt.out)) (by cases k <;> simp [laws_FnExactHopsOf.j0])
  case rest =>
   clear bh
   try clear c1
   try clear c2
   try clear p2
   try clear c3
   try clear bj
   try clear c4
   try clear c12
   try clear c20
   try clear c21
   try clear c22
   try clear ba
   try clear ax
   try clear bb
   try clear aL
   try clear aM
   try clear aP
   try clear aQ
   try clear aV
   try clear aW
   try clear aZ
   try clear a0
   try clear a3
   try clear a4
   try clear bc
   try clear bd
   try clear aN
   try clear aO
   try clear aR
   try clear aS
   try clear aX
   try clear aY
   try clear a1
   try clear a2
   try clear a5
   try clear a6
   try clear be
   try clear bf
   obtain ⟨kq, aA, rfl, HA, HJ10, ae, aa, ac, HB⟩ := hcut
   cases kq with
   | zero => exact absurd HA.out (by simp [laws_FnExactHopsOf.j0])
   | succ kj10 =>
    have H := HA.out; clear HA
    simp only [laws_FnExactHopsOf.j0] at H
    by_cases c29 : aA = true
    ·subst c29
     have H1 : (some false) = some r := by rw [if_pos rfl] at H; exact H
     clear H; have H := H1; clear H1
     exact absurd (H.trans (congrArg some hrt.out)) (by simp)
    ·replace c29 := Bool.eq_false_iff.mpr c29
     subst c29
     have H1 : ((laws_toStore.f kj10 a0_0 ab).bind fun bt897 => ((laws_eqStore.f kj10 al ah bt897.1 bt897.2).bind fun aI => (if aI = true then (some true) else (some false)))) = some r := by rw [if_neg (show ¬ (false = true) by decide)] at H; exact H
     clear H; have H := H1; clear H1; replace H := Option.bind_eq_some_iff.mp H
     obtain ⟨⟨a7, a8⟩, bm, H⟩ := H
     replace H : ((laws_eqStore.f kj10 al ah a7 a8).bind fun aI => (if aI = true then (some true) else (some false))) = some r := H
     have A30 := zK bm; clear bm; replace H := Option.bind_eq_some_iff.mp H
     obtain ⟨aI, bn, H⟩ := H
     replace H : (if aI = true then (some true) else (some false)) = some r := H
     have A31 := zK bn; clear bn
     by_cases c32 : aI = true
     ·subst c32
      have H1 : (some true) = some r := by rw [if_pos rfl] at H; exact H
      clear H; have H := H1; clear H1; obtain rfl := Option.some.inj H
      try go_wp2
      have am := zK (Kd.S_drew ae.out)
      have an := zK (zD aa.out)
      have ap := zK (zD ac.out)
      have av := zK (zE HB.out)
      clear ae aa ac HB; have ae := am; have aa := an; have ac := ap; have HB := av; clear am an ap av
      refine start_ (n := 5) (S := fun w' => w'.cell? ⟨af, 0, none⟩ = some (.int .i64 al) ∧ w'.cell? ⟨af, 1, none⟩ = some (.slice aq ah.length ar) ∧ w'.cell? ⟨ad, 0, none⟩ = some (.int .i64 a0_0) ∧ w'.cell? ⟨ad, 1, none⟩ = some (.slice aj ab.length ak)) (ds := []) #[ff, ff, ff, ff, ff] (by kernel_rfl) rfl rfl ⟨(blk_cell ac.out 0).trans rfl, (blk_cell ac.out 1).trans rfl, (blk_cell aa.out 0).trans rfl, (blk_cell aa.out 1).trans rfl⟩ (fun hHeld => ?_)
      generalize wc.drew = w33 at ae aa ac HB hHeld ⊢
      refine take_ (i := 0) (N := some 35) (v := ?_) (a' := ?_) #[tt, ff, ff, ff, ff] rfl rfl (by kernel_rfl) (fun _ _ _ h => h) (Or.inl ⟨by rfl, ?_⟩) hHeld ?_ ?_
      rotate_left
      ·rintro w' ⟨s0, s1, s2, s3⟩
       go_simp
       with_reducible rfl
      rotate_left
      ·simp only [Act.put, zp, zq, zr, i64_w, i32_w]
       rfl
      refine take_ (i := 1) (N := some 36) (v := ?_) (a' := ?_) #[tt, tt, ff, ff, ff] rfl rfl (by kernel_rfl) (fun _ _ _ h => h) (Or.inl ⟨by rfl, ?_⟩) hHeld ?_ ?_
      rotate_left
      ·rintro w' ⟨s0, s1, s2, s3⟩
       go_simp
       with_reducible rfl
      rotate_left
      ·simp only [Act.put, zp, zq, zr, i64_w, i32_w]
       rfl
      refine one_ (i := 2) (N := some 37) #[tt, tt, tt, ff, ff] rfl rfl (by kernel_rfl) (by decide) (fun K hK => ?_)
      refine goes_ Try.func21 (by kernel_rfl) rfl #[.agg #[.int .i64 a0_0, .slice aj ab.length ak]] (by rfl) rfl rfl (by (try simp only [List.map_toArray, List.map_cons, List.map_nil]); first | done | rfl | (simp only [List.length_drop, List.length_take]; rfl)) ?_
      with_reducible refine (laws_toStore.calls kj10 a0_0 _ _ ab a7 a8 _ ?side1 ?side2 A30.out).mono ?_
      (case side1 => repeat (first | exact (Kd.C_below aB.out HB.out) | (with_reducible refine Kd.C_alloc ?_ _) | (with_reducible refine Kd.C_drewN ?_ _) | (with_reducible refine Kd.C_drew ?_)))
      (case side2 => exact aC.out)
      rintro e w34 ⟨v899, rfl, ho0, hb⟩
      refine ⟨_, rfl, ?_⟩
      have am := zK (Kd.S_elder' (by (with_reducible repeat (first | apply Kd.S_alloc | apply Kd.S_drewN | apply Kd.S_drew)); exact ae.out) (Kd.S_base ho0) hb)
      have an := zK (Kd.S_lower (Kd.S_new' ho0 (Kd.S_lt (by (with_reducible repeat (first | apply Kd.S_alloc | apply Kd.S_drewN | apply Kd.S_drew)); exact ae.out))) (below_size (by repeat (first | (with_reducible first | exact HB.out | apply zB | apply zC | apply zE | refine zS ?_ ag.out | refine zS ?_ aw.out) | exact HB.out))))
      have ap := zK (blk_below (g := ad) (o := .cells #[.int .i64 a0_0, .slice aj ab.length ak] 36 (0, 0)) (by (with_reducible repeat (first | refine zN ?_ _ | refine zD ?_ | refine zA ?_ _)); exact aa.out) hb)
      have av := zK (blk_below (g := af) (o := .cells #[.int .i64 al, .slice aq ah.length ar] 24 (0, 0)) (by (with_reducible repeat (first | refine zN ?_ _ | refine zD ?_ | refine zA ?_ _)); exact ac.out) hb)
      have aG := zK (below_step (by repeat (first | (with_reducible first | exact HB.out | apply zB | apply zC | apply zE | refine zS ?_ ag.out | refine zS ?_ aw.out) | exact HB.out)) hb)
      clear ae aa ac HB; have ae := am; have ay := an; have aa := ap; have ac := av; have HB := aG; clear am an ap av aG; (try clear hb); (try clear hb2); (try clear hk); (try clear hi); (try clear ho0)
      obtain ⟨Ao35, co35, bo⟩ := Kd.S_slice ay.out
      (first | subst bo | (injection bo with f1_ f2_ f3_; have f4_ := f1_.symm; have f5_ := f3_.symm; clear f1_ f2_ f3_; subst f4_; subst f5_))
      refine hK.out _ _ ⟨(blk_cell ac.out 0).trans rfl, (blk_cell ac.out 1).trans rfl, (blk_cell aa.out 0).trans rfl, (blk_cell aa.out 1).trans rfl⟩ (fun hHeld => ?_)
      clear hK K
      refine norm_ (a' := ?_) ?_ ?_
      rotate_left
      ·show Act.put _ (some 37) _ = _
       simp only [Act.put, zp, zq, zr, i64_w, i32_w]
       rfl
      refine one_ (i := 3) (N := some 38) #[tt, tt, tt, tt, ff] rfl rfl (by kernel_rfl) (by decide) (fun K hK => ?_)
      refine goes_ Try.func23 (by kernel_rfl) rfl #[.agg #[.int .i64 al, .slice aq ah.length ar], .agg #[.int .i64 a7, .slice Ao35 a8.length co35]] (by rfl) rfl rfl (by (try simp only [List.map_toArray, List.map_cons, List.map_nil]); first | done | rfl | (simp only [List.length_drop, List.length_take]; rfl)) ?_
      with_reducible refine (laws_eqStore.calls kj10 al _ _ ah a7 _ _ a8 true _ ?side1 ?side2 ?side3 ?side4 A31.out).mono ?_
      (case side1 => repeat (first | exact (Kd.S_reads' ae.out).2.2 | (with_reducible refine Kd.C_alloc ?_ _) | (with_reducible refine Kd.C_drewN ?_ _) | (with_reducible refine Kd.C_drew ?_)))
      (case side2 => exact (Kd.S_reads' ae.out).2.1)
      (case side3 => repeat (first | exact (Kd.S_reads' ay.out).2.2 | (with_reducible refine Kd.C_alloc ?_ _) | (with_reducible refine Kd.C_drewN ?_ _) | (with_reducible refine Kd.C_drew ?_)))
      (case side4 => exact (Kd.S_reads' ay.out).2.1)
      rintro e w36 ⟨rfl, hb⟩
      refine ⟨_, rfl, ?_⟩
      have am := zK (Kd.S_below (by (with_reducible repeat (first | apply Kd.S_alloc | apply Kd.S_drewN | apply Kd.S_drew)); exact ae.out) hb)
      have an := zK (Kd.S_below (by (with_reducible repeat (first | apply Kd.S_alloc | apply Kd.S_drewN | apply Kd.S_drew)); exact ay.out) hb)
      have ap := zK (blk_below (g := ad) (o := .cells #[.int .i64 a0_0, .slice aj ab.length ak] 36 (0, 0)) (by (with_reducible repeat (first | refine zN ?_ _ | refine zD ?_ | refine zA ?_ _)); exact aa.out) hb)
      have av := zK (blk_below (g := af) (o := .cells #[.int .i64 al, .slice aq ah.length ar] 24 (0, 0)) (by (with_reducible repeat (first | refine zN ?_ _ | refine zD ?_ | refine zA ?_ _)); exact ac.out) hb)
      have aG := zK (below_step (by repeat (first | (with_reducible first | exact HB.out | apply zB | apply zC | apply zE | refine zS ?_ ag.out | refine zS ?_ aw.out) | exact HB.out)) hb)
      clear ae ay aa ac HB; have ae := am; have ay := an; have aa := ap; have ac := av; have HB := aG; clear am an ap av aG; (try clear hb); (try clear hb2); (try clear hk); (try clear hi)
      refine hK.out _ _ ⟨(blk_cell ac.out 0).trans rfl, (blk_cell ac.out 1).trans rfl, (blk_cell aa.out 0).trans rfl, (blk_cell aa.out 1).trans rfl⟩ (fun hHeld => ?_)
      clear hK K
      refine norm_ (a' := ?_) ?_ ?_
      rotate_left
      ·show Act.put _ (some 38) _ = _
       simp only [Act.put, zp, zq, zr, i64_w, i32_w]
       rfl
      refine pure_ (i := 4) (N := some 39) (v := ?_) (a' := ?_) #[tt, tt, tt, tt, tt] rfl rfl (by kernel_rfl) (fun _ _ _ h => h) (Or.inl ⟨by rfl, ?_⟩) ?_ ?_
      rotate_left
      ·intro w'
       go_simp
       with_reducible rfl
      rotate_left
      ·simp only [Act.put, zp, zq, zr, i64_w, i32_w]
       rfl
      refine done_ (by kernel_rfl) ?_
      try go_wp2
      go_ret
      exact ⟨by first | rfl | (simp [errW_none, errW_some] <;> rfl) | (simp [*, errW_none, errW_some] <;> rfl), by repeat (first | (with_reducible first | exact HB.out | apply zB | apply zC | apply zE | refine zS ?_ ag.out | refine zS ?_ aw.out) | exact HB.out)⟩
     ·replace c32 := Bool.eq_false_iff.mpr c32
      subst c32
      have H1 : (some false) = some r := by rw [if_neg (show ¬ (false = true) by decide)] at H; exact H
      clear H; have H := H1; clear H1
      exact absurd (H.trans (congrArg some hrt.out)) (by simp)
end Go.Proofs.Ytheckjlldkkceaa.Px
