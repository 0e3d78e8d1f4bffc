import Derived.Test.YtheckjlldkkceaaZsPx0
import Derived.Test.YtheckjlldkkceaaZsPx3
import Derived.Test.YtheckjlldkkceaaZsPx5
namespace Go.Proofs.Ytheckjlldkkceaa.Px
open Go.RowKit Go.Proofs.YtheckjlldkkceaaW.PrintWords Go.Proofs.YtheckjlldkkceaaW.PrintLast Go.Proofs.YtheckjlldkkceaaW.PrintMore
attribute [local go_sem] max2_int min2_int max_two min_two max_three min_three max_four min_four   
set_option linter.unusedVariables false
set_option linter.unusedSimpArgs false
def impl_NextOut.f (k : Nat) (a0_0 : Int) (l0_1 : List (List (S30))) : Option (Int) := (impl_StoreOk.f k a0_0 l0_1).bind fun t317 => (if t317 = true then ((impl_nextOut.f k a0_0 l0_1).bind fun t318 => (some t318)) else (some 0))
set_option maxHeartbeats 8000000 in
set_option maxRecDepth 100000 in
theorem impl_NextOut.calls (k : Nat) (a0_0 : Int) (ad : Option Addr) (ae : Nat) (ab : List (List (S30))) (r : Int) (w : World) (am : Kd.C (Kd.slice 30 k30) w ad ab.length ab) (hc0_1 : ab.length ≤ ae) (h : impl_NextOut.f k a0_0 ab = some r) :
  Calls Try.prog 24 #[.agg #[.int .i64 a0_0, .slice ad ab.length ae]] w fun e w' => e = .returned (.int .i64 r) ∧ Below w.heap.size w w' := by
 have hu24 := Try.underlying24; have aj := zK am; have ak := zK hc0_1; clear am hc0_1
 have HB := zK (Below.refl w.heap.size w)
 have H : ((impl_StoreOk.f k a0_0 ab).bind fun al => (if al = true then ((impl_nextOut.f k a0_0 ab).bind fun ag => (some ag)) else (some 0))) = some r := h
 clear h; replace H := Option.bind_eq_some_iff.mp H
 obtain ⟨al, A20, H⟩ := H
 replace H : (if al = true then ((impl_nextOut.f k a0_0 ab).bind fun ag => (some ag)) else (some 0)) = some r := H
 have A2 := zK A20; clear A20
 by_cases c3 : al = true
 ·subst c3
  have H1 : ((impl_nextOut.f k a0_0 ab).bind fun ag => (some ag)) = some r := by rw [if_pos rfl] at H; exact H
  clear H; have H := H1; clear H1; replace H := Option.bind_eq_some_iff.mp H
  obtain ⟨ag, A40, H⟩ := H
  replace H : (some ag) = some r := H
  have A4 := zK A40; clear A40; obtain rfl := Option.some.inj H
  go_enter Try.func24, Try.ntmps24
  go_wp2_with (first | ((with_reducible refine gate_dst (N := 1) rfl ?_); refine box_event ?hg (N := 1) ?hd (cs := #[.int .i64 a0_0, .slice ad ab.length ae]) (t := 24) ?hr ?_; (case hd => rfl); (case hg => rfl); (case hr => first | (go_simp; done) | (go_simp; rfl)); intro ac hg w5 hbox hb; have ah := zK (below_step (zb HB) hb); have ai := zK (hbox); have an := zK ((by rw [hg]; exact (below_size (zb HB)) : w.heap.size ≤ ac)); have ao := zK ((by rw [hg]; exact (below_size (zb HB)) : w.heap.size ≤ ac)); clear HB; have HB := ah; have aa := ai; have ap := an; have af := ao; clear ah ai an ao; clear hb hbox hg; have hcz6_0 : w5.cell? ⟨ac, 0, none⟩ = some (.int .i64 a0_0) := (blk_cell aa.out 0).trans rfl; have hcz6_1 : w5.cell? ⟨ac, 1, none⟩ = some (.slice ad ab.length ae) := (blk_cell aa.out 1).trans rfl; have hfz6_0 := blk_frozen aa.out 0; have hfz6_1 := blk_frozen aa.out 1) | ((with_reducible refine gate_callee (f := 22) rfl ?_); refine goesL_ (some 4) rfl rfl Try.func22 (by kernel_rfl) rfl #[.agg #[.int .i64 a0_0, .slice ad ab.length ae]] rfl (by (try simp only [List.map_toArray, List.map_cons, List.map_nil]); first | done | rfl | (simp only [List.length_drop, List.length_take]; rfl)) ?_; (with_reducible refine (impl_StoreOk.calls k a0_0 _ _ ab true _ ?side1 ?side2 A2.out).mono ?_); (case side1 => repeat (first | exact (Kd.C_below aj.out HB.out) | (with_reducible refine Kd.C_alloc ?_ _) | (with_reducible refine Kd.C_drewN ?_ _) | (with_reducible refine Kd.C_drew ?_))); (case side2 => exact ak.out); rintro e w7 ⟨rfl, hb⟩; refine ⟨_, rfl, ?_⟩; have ah := zK (blk_below (g := ac) (o := .cells #[.int .i64 a0_0, .slice ad ab.length ae] 24 (0, 0)) (zk aa) hb); have ai := zK (below_step (zb HB) hb); clear aa; clear HB; have aa := ah; have HB := ai; clear ah ai; (try clear hb); have hcz8_0 : w7.cell? ⟨ac, 0, none⟩ = some (.int .i64 a0_0) := (blk_cell aa.out 0).trans rfl; have hcz8_1 : w7.cell? ⟨ac, 1, none⟩ = some (.slice ad ab.length ae) := (blk_cell aa.out 1).trans rfl; have hfz8_0 := blk_frozen aa.out 0; have hfz8_1 := blk_frozen aa.out 1) | ((with_reducible refine gate_callee (f := 60) rfl ?_); refine goesL_ (some 7) rfl rfl Try.func60 (by kernel_rfl) rfl #[.agg #[.int .i64 a0_0, .slice ad ab.length ae]] rfl (by (try simp only [List.map_toArray, List.map_cons, List.map_nil]); first | done | rfl | (simp only [List.length_drop, List.length_take]; rfl)) ?_; (with_reducible refine (impl_nextOut.calls k a0_0 _ _ ab ag _ ?side1 ?side2 A4.out).mono ?_); (case side1 => repeat (first | exact (Kd.C_below aj.out HB.out) | (with_reducible refine Kd.C_alloc ?_ _) | (with_reducible refine Kd.C_drewN ?_ _) | (with_reducible refine Kd.C_drew ?_))); (case side2 => exact ak.out); rintro e w9 ⟨rfl, hb⟩; refine ⟨_, rfl, ?_⟩; have ah := zK (blk_below (g := ac) (o := .cells #[.int .i64 a0_0, .slice ad ab.length ae] 24 (0, 0)) (zk aa) hb); have ai := zK (below_step (zb HB) hb); clear aa; clear HB; have aa := ah; have HB := ai; clear ah ai; (try clear hb)))
  go_ret
  exact ⟨by first | rfl | (simp [errW_none, errW_some] <;> rfl) | (simp [*, errW_none, errW_some] <;> rfl), by repeat (first | (with_reducible first | exact HB.out | apply zB | apply zC | apply zE | refine zS ?_ af.out) | exact HB.out)⟩
 ·replace c3 := Bool.eq_false_iff.mpr c3
  subst c3
  have H1 : (some 0) = some r := by rw [if_neg (show ¬ (false = true) by decide)] at H; exact H
  clear H; have H := H1; clear H1; obtain rfl := Option.some.inj H
  go_enter Try.func24, Try.ntmps24
  go_wp2_with (first | ((with_reducible refine gate_dst (N := 1) rfl ?_); refine box_event ?hg (N := 1) ?hd (cs := #[.int .i64 a0_0, .slice ad ab.length ae]) (t := 24) ?hr ?_; (case hd => rfl); (case hg => rfl); (case hr => first | (go_simp; done) | (go_simp; rfl)); intro ac hg w10 hbox hb; have ah := zK (below_step (zb HB) hb); have ai := zK (hbox); have an := zK ((by rw [hg]; exact (below_size (zb HB)) : w.heap.size ≤ ac)); have ao := zK ((by rw [hg]; exact (below_size (zb HB)) : w.heap.size ≤ ac)); clear HB; have HB := ah; have aa := ai; have ap := an; have af := ao; clear ah ai an ao; clear hb hbox hg; have hcz11_0 : w10.cell? ⟨ac, 0, none⟩ = some (.int .i64 a0_0) := (blk_cell aa.out 0).trans rfl; have hcz11_1 : w10.cell? ⟨ac, 1, none⟩ = some (.slice ad ab.length ae) := (blk_cell aa.out 1).trans rfl; have hfz11_0 := blk_frozen aa.out 0; have hfz11_1 := blk_frozen aa.out 1) | ((with_reducible refine gate_callee (f := 22) rfl ?_); refine goesL_ (some 4) rfl rfl Try.func22 (by kernel_rfl) rfl #[.agg #[.int .i64 a0_0, .slice ad ab.length ae]] rfl (by (try simp only [List.map_toArray, List.map_cons, List.map_nil]); first | done | rfl | (simp only [List.length_drop, List.length_take]; rfl)) ?_; (with_reducible refine (impl_StoreOk.calls k a0_0 _ _ ab false _ ?side1 ?side2 A2.out).mono ?_); (case side1 => repeat (first | exact (Kd.C_below aj.out HB.out) | (with_reducible refine Kd.C_alloc ?_ _) | (with_reducible refine Kd.C_drewN ?_ _) | (with_reducible refine Kd.C_drew ?_))); (case side2 => exact ak.out); rintro e w12 ⟨rfl, hb⟩; refine ⟨_, rfl, ?_⟩; have ah := zK (blk_below (g := ac) (o := .cells #[.int .i64 a0_0, .slice ad ab.length ae] 24 (0, 0)) (zk aa) hb); have ai := zK (below_step (zb HB) hb); clear aa; clear HB; have aa := ah; have HB := ai; clear ah ai; (try clear hb)))
  go_ret
  exact ⟨by first | rfl | (simp [errW_none, errW_some] <;> rfl) | (simp [*, errW_none, errW_some] <;> rfl), by repeat (first | (with_reducible first | exact HB.out | apply zB | apply zC | apply zE | refine zS ?_ af.out) | exact HB.out)⟩
end Go.Proofs.Ytheckjlldkkceaa.Px
