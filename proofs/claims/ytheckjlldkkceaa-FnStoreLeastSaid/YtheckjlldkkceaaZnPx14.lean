import Derived.Test.YtheckjlldkkceaaZnPx0
import Derived.Test.YtheckjlldkkceaaZnPx3
import Derived.Test.YtheckjlldkkceaaZnPx4
import Derived.Test.YtheckjlldkkceaaZnPx7
import Derived.Test.YtheckjlldkkceaaZnPx10
namespace Go.Proofs.Ytheckjlldkkceaa.Px
open Go.RowKit Go.Proofs.YtheckjlldkkceaaW.PrintWords Go.Proofs.YtheckjlldkkceaaW.PrintLast Go.Proofs.YtheckjlldkkceaaW.PrintMore
attribute [local go_sem] max2_int min2_int max_two min_two max_three min_three max_four min_four   
set_option linter.unusedVariables false
set_option linter.unusedSimpArgs false
mutual
def impl_TakeBag.j0 : Nat → Int → Int → Bool → Int → List (List (S30)) → Option (Int × (List (List (S30))) × (List (S78)) × Bool)
 | 0, _, _, _, _, _ => none
 | k + 1, x1, x7, x21, x835000, x835001 => if x21 = true then ((impl_copyStore.f k x835000 x835001).bind fun bt838 => (some (bt838.1, bt838.2, ([] : List (S78)), false))) else ((impl_copyStore.f k x835000 x835001).bind fun bt842 => (impl_TakeBag.l0 k x1 x7 ([] : List (S78)) x835000 x835001 bt842.1 bt842.2))
def impl_TakeBag.l0 : Nat → Int → Int → List (S78) → Int → List (List (S30)) → Int → List (List (S30)) → Option (Int × (List (List (S30))) × (List (S78)) × Bool)
 | 0, _, _, _, _, _, _, _ => none
 | k + 1, x1, x7, x9, x835000, x835001, x847000, x847001 => if 0 ≤ x7 then (if x7 < (x847001.length : Int) then (if 0 ≤ (wrap64 (((rd_L2 x847001 x7).length : Int) - 1)) then (if (wrap64 (((rd_L2 x847001 x7).length : Int) - 1)) < ((rd_L2 x847001 x7).length : Int) then (if ((rd_T30 (rd_L2 x847001 x7) (wrap64 (((rd_L2 x847001 x7).length : Int) - 1))).f0) = x1 then (if (wrap64 (((rd_L2 x847001 x7).length : Int) - 1)) ≤ ((rd_L2 x847001 x7).length : Int) then (some (x847000, (x847001.set (x7 : Int).toNat ((rd_L2 x847001 x7).take ((wrap64 (((rd_L2 x847001 x7).length : Int) - 1)) : Int).toNat)), x9, true)) else (none)) else ((impl_laneFor.f k x847000 x847001 ((rd_T30 (rd_L2 x847001 x7) (wrap64 (((rd_L2 x847001 x7).length : Int) - 1))).f1) x7).bind fun t858 => (if t858 < 0 then ((impl_copyStore.f k x835000 x835001).bind fun bt859 => (some (bt859.1, bt859.2, ([] : List (S78)), false))) else (if (wrap64 (((rd_L2 x847001 x7).length : Int) - 1)) ≤ ((rd_L2 x847001 x7).length : Int) then ((some (x847001.set (x7 : Int).toNat ((rd_L2 x847001 x7).take ((wrap64 (((rd_L2 x847001 x7).length : Int) - 1)) : Int).toNat) : List (List (S30)))).bind fun y869 => (if 0 ≤ t858 then (if t858 < (x847001.length : Int) then (if t858 = x7 then (none) else (if (rd_L2 y869 t858).length < 8796093022208 then (if x9.length < 5864062014805 then (impl_TakeBag.l0 k x1 x7 (x9 ++ [(⟨(rd_T30 (rd_L2 x847001 x7) (wrap64 (((rd_L2 x847001 x7).length : Int) - 1))).f0, x7, t858⟩ : S78)]) x835000 x835001 x847000 (y869.set (t858 : Int).toNat ((rd_L2 y869 t858) ++ [(⟨(rd_T30 (rd_L2 x847001 x7) (wrap64 (((rd_L2 x847001 x7).length : Int) - 1))).f0, (rd_T30 (rd_L2 x847001 x7) (wrap64 (((rd_L2 x847001 x7).length : Int) - 1))).f1⟩ : S30)]))) else (none)) else (none))) else (none)) else (none))) else (none))))) else (none)) else (none)) else (none)) else (none)
end
def impl_TakeBag.f (k : Nat) (a0_0 : Int) (l0_1 : List (List (S30))) (a1 : Int) : Option (Int × (List (List (S30))) × (List (S78)) × Bool) := (impl_laneOf.f a0_0 l0_1 a1).bind fun t836 => ((impl_StoreOk.f k a0_0 l0_1).bind fun t837 => (if t837 = true then (impl_TakeBag.j0 k a1 t836 (decide (t836 < 0)) a0_0 l0_1) else (impl_TakeBag.j0 k a1 t836 true a0_0 l0_1)))
def impl_TakeBag.T6 : Bool × List (List Nat × List Nat) := (true, [([], []), ([0], [0]), ([], []), ([1, 2], [1, 2]), ([3], [3]), ([], []), ([5], [5]), ([], []), ([6, 7], [6, 7]), ([8], [8]), ([9], [9]), ([10], [10]), ([4, 11], [4, 11]), ([12], [12]), ([], []), ([14, 13, 0, 1, 2, 3, 4, 5, 6, 7, 8, 9, 10, 11, 12, 13, 14], [13, 14])])
def impl_TakeBag.B6 : List Nat := [0, 1, 0, 7, 15, 0, 32, 0, 224, 480, 992, 2016, 4095, 8191, 0, 32767]
theorem impl_TakeBag.tab6 : rtab .any (opsOf Try.f37 6) = impl_TakeBag.T6 := by kernel_rfl
theorem impl_TakeBag.bits6 : waitsOk impl_TakeBag.T6.2 impl_TakeBag.B6 = true := by kernel_rfl
def impl_TakeBag.T14 : Bool × List (List Nat × List Nat) := (true, [([], []), ([0], [0]), ([], []), ([], []), ([3], [3]), ([], []), ([4, 5], [4, 5]), ([6], [6]), ([], []), ([8], [8]), ([7, 9], [7, 9]), ([1, 2, 0, 1, 2, 3, 4, 5, 6, 7, 8, 9, 10], [1, 2]), ([11, 10, 10, 0, 1, 2, 3, 4, 5, 6, 7, 8, 9, 10], [10, 11])])
def impl_TakeBag.B14 : List Nat := [0, 1, 0, 0, 8, 0, 56, 120, 0, 256, 1016, 2047, 4095]
theorem impl_TakeBag.tab14 : rtab .any (opsOf Try.f37 14) = impl_TakeBag.T14 := by kernel_rfl
theorem impl_TakeBag.bits14 : waitsOk impl_TakeBag.T14.2 impl_TakeBag.B14 = true := by kernel_rfl
set_option maxHeartbeats 8000000 in
set_option maxRecDepth 100000 in
theorem impl_TakeBag.calls (k : Nat) (a0_0 : Int) (aH : Option Addr) (aI : Nat) (ar : List (List (S30))) (a1 : Int) (r1 : Int) (r2 : List (List (S30))) (r3 : List (S78)) (r4 : Bool) (w : World) (eA : Kd.C (Kd.slice 30 k30) w aH ar.length ar) (hc0_1 : ar.length ≤ aI) (h : impl_TakeBag.f k a0_0 ar a1 = some (r1, r2, r3, r4)) :
  Calls Try.prog 37 #[.agg #[.int .i64 a0_0, .slice aH ar.length aI], .int .i64 a1] w fun e w' => ∃ v1_ v2_ : Value, e = .returned (.tuple #[.agg #[.int .i64 r1, v1_], v2_, .bool r4]) ∧ Kd.S (Kd.slice 30 k30) 28 w' w.heap.size (fun _ => True) v1_ r2 ∧ Kd.R k78 78 w' w.heap.size (fun _ => True) v2_ r3 ∧ Below w.heap.size w w' := by
 have hu24 := Try.underlying24; have hu30 := Try.underlying30; have hu78 := Try.underlying78; have bZ := zK eA; have b0 := zK hc0_1; clear eA hc0_1
 have HB := zK (Below.refl w.heap.size w)
 have H : ((impl_laneOf.f a0_0 ar a1).bind fun ac => ((impl_StoreOk.f k a0_0 ar).bind fun dm => (if dm = true then (impl_TakeBag.j0 k a1 ac (decide (ac < 0)) a0_0 ar) else (impl_TakeBag.j0 k a1 ac true a0_0 ar)))) = some (r1, r2, r3, r4) := h
 clear h; replace H := Option.bind_eq_some_iff.mp H
 obtain ⟨ac, A30, H⟩ := H
 replace H : ((impl_StoreOk.f k a0_0 ar).bind fun dm => (if dm = true then (impl_TakeBag.j0 k a1 ac (decide (ac < 0)) a0_0 ar) else (impl_TakeBag.j0 k a1 ac true a0_0 ar))) = some (r1, r2, r3, r4) := H
 have A3 := zK A30; clear A30; have HC4 := zK H; clear H
 go_enter Try.func37, Try.ntmps37
 go_upto_region 2 with (first | ((with_reducible refine gate_dst (N := 2) rfl ?_); refine box_event ?hg (N := 2) ?hd (cs := #[.int .i64 a0_0, .slice aH ar.length aI]) (t := 24) ?hr ?_; (case hd => rfl); (case hg => rfl); (case hr => first | (go_simp; done) | (go_simp; rfl)); intro ao hg w5 hbox hb; have aV := zK (below_step (zb HB) hb); have aW := zK (hbox); have aX := zK ((by rw [hg]; exact (below_size (zb HB)) : w.heap.size ≤ ao)); have a0 := zK ((by rw [hg]; exact (below_size (zb HB)) : w.heap.size ≤ ao)); clear HB; have HB := aV; have ag := aW; have GW834 := aX; have aw := a0; clear aV aW aX a0; clear hb hbox hg) | ((with_reducible refine gate_dst (N := 4) rfl ?_); refine box_event ?hg (N := 4) ?hd (cs := #[.int .i64 0, .slice none 0 0]) (t := 24) ?hr ?_; (case hd => rfl); (case hg => rfl); (case hr => first | (go_simp; done) | (go_simp; rfl)); intro an hg w6 hbox hb; have aV := zK (blk_below (g := ao) (o := .cells #[.int .i64 a0_0, .slice aH ar.length aI] 24 (0, 0)) (zk ag) hb); have aW := zK (below_step (zb HB) hb); have aX := zK (hbox); have a0 := zK ((by rw [hg]; exact (below_size (zb HB)) : w.heap.size ≤ an)); have a6 := zK ((by rw [hg]; exact (below_size (zb HB)) : w.heap.size ≤ an)); have a7 := zK ((by rw [hg]; exact Nat.ne_of_lt (blk_lt (g := ao) (o := .cells #[.int .i64 a0_0, .slice aH ar.length aI] 24 (0, 0)) (zk ag)) : ao ≠ an)); have bg := zK ((by rw [hg]; exact Nat.ne_of_gt (blk_lt (g := ao) (o := .cells #[.int .i64 a0_0, .slice aH ar.length aI] 24 (0, 0)) (zk ag)) : an ≠ ao)); clear ag; clear HB; have ag := aV; have HB := aW; have ai := aX; have GW835 := a0; have az := a6; have a8 := a7; have a9 := bg; clear aV aW aX a0 a6 a7 bg; clear hb hbox hg; have hnb7 := a8.out; have hnc7 := a9.out; have dp : w6.cell? ⟨ao, 0, none⟩ = some (.int .i64 a0_0) := (blk_cell ag.out 0).trans rfl; have dq : w6.cell? ⟨ao, 1, none⟩ = some (.slice aH ar.length aI) := (blk_cell ag.out 1).trans rfl; have dr := blk_frozen ag.out 0; have dt := blk_frozen ag.out 1) | ((with_reducible refine gate_callee (f := 74) rfl ?_); refine goesL_ (some 14) rfl rfl Try.func74 (by kernel_rfl) rfl #[.agg #[.int .i64 a0_0, .slice aH ar.length aI], .int .i64 a1] rfl (by (try simp only [List.map_toArray, List.map_cons, List.map_nil]); first | done | rfl | (simp only [List.length_drop, List.length_take]; rfl)) ?_; (with_reducible refine (impl_laneOf.calls a0_0 _ _ ar a1 ac _ ?side1 ?side2 A3.out).mono ?_); (case side1 => repeat (first | exact (Kd.C_below bZ.out HB.out) | (with_reducible refine Kd.C_alloc ?_ _) | (with_reducible refine Kd.C_drewN ?_ _) | (with_reducible refine Kd.C_drew ?_))); (case side2 => exact b0.out); rintro e w9 ⟨rfl, hb⟩; refine ⟨_, rfl, ?_⟩; have aV := zK (blk_below (g := ao) (o := .cells #[.int .i64 a0_0, .slice aH ar.length aI] 24 (0, 0)) (zk ag) hb); have aW := zK (blk_below (g := an) (o := .cells #[.int .i64 0, .slice none 0 0] 24 (0, 0)) (zk ai) hb); have aX := zK (below_step (zb HB) hb); clear ag; clear ai; clear HB; have ag := aV; have ai := aW; have HB := aX; clear aV aW aX; (try clear hb)))
 (try simp only [Act.put, zp, zq, zr])
 go_cut [21] (fun v21 wc => ∃ (kq : Nat) (cG : Bool), v21 = .bool cG ∧ Aside0 (impl_TakeBag.j0 kq a1 ac cG a0_0 ar = some (r1, r2, r3, r4)) ∧ Aside0 (kq ≤ k) ∧ Aside0 (wc.heap[ao]? = some (.cells #[.int .i64 a0_0, (.slice aH ar.length aI)] 24 (0, 0))) ∧ Aside0 (wc.heap[an]? = some (.cells #[.int .i64 0, (.slice none 0 0)] 24 (0, 0))) ∧ Aside0 (Below w.heap.size w wc))
 case first =>
  have H := HC4.out; clear HC4; replace H := Option.bind_eq_some_iff.mp H
  obtain ⟨dm, ft, H⟩ := H
  replace H : (if dm = true then (impl_TakeBag.j0 k a1 ac (decide (ac < 0)) a0_0 ar) else (impl_TakeBag.j0 k a1 ac true a0_0 ar)) = some (r1, r2, r3, r4) := H
  have A10 := zK ft; clear ft
  by_cases fo : dm = true
  ·subst fo
   have H1 : (impl_TakeBag.j0 k a1 ac (decide (ac < 0)) a0_0 ar) = some (r1, r2, r3, r4) := by rw [if_pos rfl] at H; exact H
   clear H; have H := H1; clear H1; have H' := zK H; clear H; have hnb12 := a8.out; have hnc12 := a9.out
   have cH : w9.cell? ⟨ao, 0, none⟩ = some (.int .i64 a0_0) := (blk_cell ag.out 0).trans rfl
   have cI : w9.cell? ⟨ao, 1, none⟩ = some (.slice aH ar.length aI) := (blk_cell ag.out 1).trans rfl
   have cJ := blk_frozen ag.out 0; have cK := blk_frozen ag.out 1
   go_wp2_with (first | ((with_reducible refine gate_callee (f := 22) rfl ?_); refine goesL_ (some 16) rfl rfl Try.func22 (by kernel_rfl) rfl #[.agg #[.int .i64 a0_0, .slice aH ar.length aI]] rfl (by (try simp only [List.map_toArray, List.map_cons, List.map_nil]); first | done | rfl | (simp only [List.length_drop, List.length_take]; rfl)) ?_; (with_reducible refine (impl_StoreOk.calls k a0_0 _ _ ar true _ ?side1 ?side2 A10.out).mono ?_); (case side1 => repeat (first | exact (Kd.C_below bZ.out HB.out) | (with_reducible refine Kd.C_alloc ?_ _) | (with_reducible refine Kd.C_drewN ?_ _) | (with_reducible refine Kd.C_drew ?_))); (case side2 => exact b0.out); rintro e w14 ⟨rfl, hb⟩; refine ⟨_, rfl, ?_⟩; have aV := zK (blk_below (g := ao) (o := .cells #[.int .i64 a0_0, .slice aH ar.length aI] 24 (0, 0)) (zk ag) hb); have aW := zK (blk_below (g := an) (o := .cells #[.int .i64 0, .slice none 0 0] 24 (0, 0)) (zk ai) hb); have aX := zK (below_step (zb HB) hb); clear ag; clear ai; clear HB; have ag := aV; have ai := aW; have HB := aX; clear aV aW aX; (try clear hb)))
   go_meet
   case rel => exact ⟨_, (decide (ac < 0)), (by first | rfl | (simp; done) | (simp [*]; done)), H', ⟨by first | omega | exact Nat.le_refl _⟩, ⟨zk ag⟩, ⟨zk ai⟩, ⟨zb HB⟩⟩
  ·replace fo := Bool.eq_false_iff.mpr fo
   subst fo
   have H1 : (impl_TakeBag.j0 k a1 ac true a0_0 ar) = some (r1, r2, r3, r4) := by rw [if_neg (show ¬ (false = true) by decide)] at H; exact H
   clear H; have H := H1; clear H1; have H' := zK H; clear H; have hnb15 := a8.out; have hnc15 := a9.out
   have cL : w9.cell? ⟨ao, 0, none⟩ = some (.int .i64 a0_0) := (blk_cell ag.out 0).trans rfl
   have cM : w9.cell? ⟨ao, 1, none⟩ = some (.slice aH ar.length aI) := (blk_cell ag.out 1).trans rfl
   have cN := blk_frozen ag.out 0; have cO := blk_frozen ag.out 1
   go_wp2_with (first | ((with_reducible refine gate_callee (f := 22) rfl ?_); refine goesL_ (some 16) rfl rfl Try.func22 (by kernel_rfl) rfl #[.agg #[.int .i64 a0_0, .slice aH ar.length aI]] rfl (by (try simp only [List.map_toArray, List.map_cons, List.map_nil]); first | done | rfl | (simp only [List.length_drop, List.length_take]; rfl)) ?_; (with_reducible refine (impl_StoreOk.calls k a0_0 _ _ ar false _ ?side1 ?side2 A10.out).mono ?_); (case side1 => repeat (first | exact (Kd.C_below bZ.out HB.out) | (with_reducible refine Kd.C_alloc ?_ _) | (with_reducible refine Kd.C_drewN ?_ _) | (with_reducible refine Kd.C_drew ?_))); (case side2 => exact b0.out); rintro e w17 ⟨rfl, hb⟩; refine ⟨_, rfl, ?_⟩; have aV := zK (blk_below (g := ao) (o := .cells #[.int .i64 a0_0, .slice aH ar.length aI] 24 (0, 0)) (zk ag) hb); have aW := zK (blk_below (g := an) (o := .cells #[.int .i64 0, .slice none 0 0] 24 (0, 0)) (zk ai) hb); have aX := zK (below_step (zb HB) hb); clear ag; clear ai; clear HB; have ag := aV; have ai := aW; have HB := aX; clear aV aW aX; (try clear hb)))
   go_meet
   case rel => exact ⟨_, (true), (by first | rfl | (simp; done) | (simp [*]; done)), H', ⟨by first | omega | exact Nat.le_refl _⟩, ⟨zk ag⟩, ⟨zk ai⟩, ⟨zb HB⟩⟩
 case rest =>
  clear HC4
  try clear c1
  try clear c2
  try clear p2
  try clear c3
  try clear c7
  try clear fo
  try clear c12
  try clear c15
  try clear cH
  try clear cI
  try clear cL
  try clear cM
  try clear dp
  try clear dq
  try clear cJ
  try clear cK
  try clear cN
  try clear cO
  try clear dr
  try clear dt
  obtain ⟨kq, cG, rfl, HA, HJ3, ag, ai, HB⟩ := hcut
  cases kq with
  | zero => exact absurd HA.out (by simp [impl_TakeBag.j0])
  | succ kj3 =>
   have H := HA.out; clear HA
   simp only [impl_TakeBag.j0] at H
   by_cases fu : cG = true
   ·subst fu
    have H1 : ((impl_copyStore.f kj3 a0_0 ar).bind fun bt838 => (some (bt838.1, bt838.2, ([] : List (S78)), false))) = some (r1, r2, r3, r4) := by rw [if_pos rfl] at H; exact H
    clear H; have H := H1; clear H1; replace H := Option.bind_eq_some_iff.mp H
    obtain ⟨⟨du, d1⟩, fv, H⟩ := H
    replace H : (some (du, d1, ([] : List (S78)), false)) = some (r1, r2, r3, r4) := H
    have A19 := zK fv; clear fv
    simp only [Option.some.injEq, Prod.mk.injEq] at H
    obtain ⟨rfl, rfl, rfl, rfl⟩ := H
    have hnb20 := a8.out; have hnc20 := a9.out
    have d2 : wc.cell? ⟨ao, 0, none⟩ = some (.int .i64 a0_0) := (blk_cell ag.out 0).trans rfl
    have d3 : wc.cell? ⟨ao, 1, none⟩ = some (.slice aH ar.length aI) := (blk_cell ag.out 1).trans rfl
    have d4 := blk_frozen ag.out 0; have d5 := blk_frozen ag.out 1
    go_wp2_with (first | ((with_reducible refine gate_callee (f := 67) rfl ?_); refine goesL_ (some 23) rfl rfl Try.func67 (by kernel_rfl) rfl #[.agg #[.int .i64 a0_0, .slice aH ar.length aI]] rfl (by (try simp only [List.map_toArray, List.map_cons, List.map_nil]); first | done | rfl | (simp only [List.length_drop, List.length_take]; rfl)) ?_; (with_reducible refine (impl_copyStore.calls kj3 a0_0 _ _ ar du d1 _ ?side1 ?side2 A19.out).mono ?_); (case side1 => repeat (first | exact (Kd.C_below bZ.out HB.out) | (with_reducible refine Kd.C_alloc ?_ _) | (with_reducible refine Kd.C_drewN ?_ _) | (with_reducible refine Kd.C_drew ?_))); (case side2 => exact b0.out); rintro e w22 ⟨v840, rfl, ho0, hb⟩; refine ⟨_, rfl, ?_⟩; have aV := zK (Kd.S_lower ho0 (below_size (zb HB))); have aW := zK (blk_below (g := ao) (o := .cells #[.int .i64 a0_0, .slice aH ar.length aI] 24 (0, 0)) (zk ag) hb); have aX := zK (blk_below (g := an) (o := .cells #[.int .i64 0, .slice none 0 0] 24 (0, 0)) (zk ai) hb); have a0 := zK (below_step (zb HB) hb); clear ag; clear ai; clear HB; have eB := aV; have ag := aW; have ai := aX; have HB := a0; clear aV aW aX a0; (try clear hb); (try clear ho0); have d6 : w22.cell? ⟨an, 0, none⟩ = some (.int .i64 0) := (blk_cell ai.out 0).trans rfl; have d7 : w22.cell? ⟨an, 1, none⟩ = some (.slice none 0 0) := (blk_cell ai.out 1).trans rfl; have d8 := blk_frozen ai.out 0; have d9 := blk_frozen ai.out 1; obtain ⟨fw, fx, eo24⟩ := Kd.S_slice eB.out; subst eo24))
    refine bodyPost_ret (results_ctt rfl _ _ an 24 #[.int .i64 du, .slice fw d1.length fx] (0, 0) _ rfl (by (with_reducible repeat (first | refine zN ?_ _ | refine zD ?_ | refine zA ?_ _)); refine blk_put (cs := #[.int .i64 du, .slice none 0 0]) ?_ 1 _ rfl; (with_reducible repeat (first | refine zN ?_ _ | refine zD ?_ | refine zA ?_ _)); refine blk_put (cs := #[.int .i64 0, .slice none 0 0]) ?_ 0 _ rfl; (with_reducible repeat (first | refine zN ?_ _ | refine zD ?_ | refine zA ?_ _)); exact ai.out) Try.underlying24 rfl (by kernel_rfl)) rfl ?_
    exact ⟨_, _, by first | rfl | (simp [errW_none, errW_some] <;> rfl) | (simp [*, errW_none, errW_some] <;> rfl), by (with_reducible repeat (first | apply Kd.S_alloc | apply Kd.S_drewN | apply Kd.S_drew)); exact Kd.S_mono (Kd.S_far (p := ⟨an, 1, none⟩) (Kd.S_far (p := ⟨an, 0, none⟩) (Kd.S_types eB.out ai.out (by decide)) (fun _ hk => hk.2) (.int .i64 du)) (fun _ hk => hk.2) (.slice fw d1.length fx)) (fun _ hk => trivial), by first | exact Kd.R_nil _ _ _ _ _ | exact Kd.N_nil _ _ _ _ _ | exact Kd.V_nil _ _ _ _ _ | exact Kd.Q_nil _ _ _ _ _ | exact Kd.S_nil _ _ _ _ _, by repeat (first | (with_reducible first | exact HB.out | apply zB | apply zC | apply zE | refine zS ?_ aw.out | refine zS ?_ az.out) | exact HB.out)⟩
   ·replace fu := Bool.eq_false_iff.mpr fu
    subst fu
    have H1 : ((impl_copyStore.f kj3 a0_0 ar).bind fun bt842 => (impl_TakeBag.l0 kj3 a1 ac ([] : List (S78)) a0_0 ar bt842.1 bt842.2)) = some (r1, r2, r3, r4) := by rw [if_neg (show ¬ (false = true) by decide)] at H; exact H
    clear H; have H := H1; clear H1; replace H := Option.bind_eq_some_iff.mp H
    obtain ⟨⟨aD, dv⟩, fy, H⟩ := H
    replace H : (impl_TakeBag.l0 kj3 a1 ac ([] : List (S78)) a0_0 ar aD dv) = some (r1, r2, r3, r4) := H
    have A25 := zK fy; clear fy; have H' := zK H; clear H; have hnb26 := a8.out; have hnc26 := a9.out
    have ea : wc.cell? ⟨ao, 0, none⟩ = some (.int .i64 a0_0) := (blk_cell ag.out 0).trans rfl
    have eb : wc.cell? ⟨ao, 1, none⟩ = some (.slice aH ar.length aI) := (blk_cell ag.out 1).trans rfl
    have ec := blk_frozen ag.out 0; have ed := blk_frozen ag.out 1
    go_wp2_with (first | ((with_reducible refine gate_callee (f := 67) rfl ?_); refine goesL_ (some 25) rfl rfl Try.func67 (by kernel_rfl) rfl #[.agg #[.int .i64 a0_0, .slice aH ar.length aI]] rfl (by (try simp only [List.map_toArray, List.map_cons, List.map_nil]); first | done | rfl | (simp only [List.length_drop, List.length_take]; rfl)) ?_; (with_reducible refine (impl_copyStore.calls kj3 a0_0 _ _ ar aD dv _ ?side1 ?side2 A25.out).mono ?_); (case side1 => repeat (first | exact (Kd.C_below bZ.out HB.out) | (with_reducible refine Kd.C_alloc ?_ _) | (with_reducible refine Kd.C_drewN ?_ _) | (with_reducible refine Kd.C_drew ?_))); (case side2 => exact b0.out); rintro e w28 ⟨v844, rfl, ho0, hb⟩; refine ⟨_, rfl, ?_⟩; have aV := zK (Kd.S_lower ho0 (below_size (zb HB))); have aW := zK (blk_below (g := ao) (o := .cells #[.int .i64 a0_0, .slice aH ar.length aI] 24 (0, 0)) (zk ag) hb); have aX := zK (blk_below (g := an) (o := .cells #[.int .i64 0, .slice none 0 0] 24 (0, 0)) (zk ai) hb); have a0 := zK (below_step (zb HB) hb); clear ag; clear ai; clear HB; have ce := aV; have ag := aW; have ai := aX; have HB := a0; clear aV aW aX a0; (try clear hb); (try clear ho0)) | ((with_reducible refine gate_dst (N := 8) rfl ?_); refine box_event ?hg (N := 8) ?hd (cs := #[.int .i64 0, .slice none 0 0]) (t := 24) ?hr ?_; (case hd => rfl); (case hg => rfl); (case hr => first | (go_simp; done) | (go_simp; rfl)); intro ap hg w29 hbox hb; have aV := zK (Kd.S_below (zT ce) hb); have aW := zK (blk_below (g := ao) (o := .cells #[.int .i64 a0_0, .slice aH ar.length aI] 24 (0, 0)) (zk ag) hb); have aX := zK (blk_below (g := an) (o := .cells #[.int .i64 0, .slice none 0 0] 24 (0, 0)) (zk ai) hb); have a0 := zK (below_step (zb HB) hb); have a6 := zK (hbox); have a7 := zK ((by rw [hg]; exact (below_size (zb HB)) : w.heap.size ≤ ap)); have bg := zK ((by rw [hg]; exact (below_size (zb HB)) : w.heap.size ≤ ap)); have br := zK ((by rw [hg]; exact Nat.ne_of_lt (blk_lt (g := ao) (o := .cells #[.int .i64 a0_0, .slice aH ar.length aI] 24 (0, 0)) (zk ag)) : ao ≠ ap)); have bx := zK ((by rw [hg]; exact Nat.ne_of_gt (blk_lt (g := ao) (o := .cells #[.int .i64 a0_0, .slice aH ar.length aI] 24 (0, 0)) (zk ag)) : ap ≠ ao)); have bC := zK ((by rw [hg]; exact Nat.ne_of_lt (blk_lt (g := an) (o := .cells #[.int .i64 0, .slice none 0 0] 24 (0, 0)) (zk ai)) : an ≠ ap)); have bp := zK ((by rw [hg]; exact Nat.ne_of_gt (blk_lt (g := an) (o := .cells #[.int .i64 0, .slice none 0 0] 24 (0, 0)) (zk ai)) : ap ≠ an)); clear ce; clear ag; clear ai; clear HB; have ce := aV; have ag := aW; have ai := aX; have HB := a0; have ah := a6; have GW846 := a7; have aR := bg; have bd := br; have bv := bx; have be := bC; have bw := bp; clear aV aW aX a0 a6 a7 bg br bx bC bp; clear hb hbox hg; have hnb30 := bv.out; have hnc30 := bd.out; have hnb31 := bw.out; have hnc31 := be.out; have ee : w29.cell? ⟨ap, 0, none⟩ = some (.int .i64 0) := (blk_cell ah.out 0).trans rfl; have ef : w29.cell? ⟨ap, 1, none⟩ = some (.slice none 0 0) := (blk_cell ah.out 1).trans rfl; have eg := blk_frozen ah.out 0; have eh := blk_frozen ah.out 1; obtain ⟨fz, fA, eo33⟩ := Kd.S_slice ce.out; subst eo33))
    go_loopg [9] kj3 (fun kq v9 w' => ∃ (bf : List (S78)) (am : Int) (aa : List (List (S30))) (u847001 : Value), Aside0 (impl_TakeBag.l0 kq a1 ac bf a0_0 ar aD aa = some (r1, r2, r3, r4)) ∧ Aside0 (kq ≤ kj3) ∧ Aside0 (Kd.R k78 78 w' w.heap.size (fun _ => True) v9 bf) ∧ Aside0 (Kd.S (Kd.slice 30 k30) 28 w' w.heap.size (fun _ => True) u847001 aa) ∧ Aside0 (w'.heap[ao]? = some (.cells #[.int .i64 a0_0, (.slice aH ar.length aI)] 24 (0, 0))) ∧ Aside0 (w'.heap[an]? = some (.cells #[.int .i64 am, (.slice none 0 0)] 24 (0, 0))) ∧ Aside0 (w'.heap[ap]? = some (.cells #[.int .i64 aD, u847001] 24 (0, 0))) ∧ Aside0 (Below w.heap.size w w'))
    case atStart => exact ⟨(([] : List (S78))), (0), (dv), (.slice fz dv.length fA), H', ⟨Nat.le_refl _⟩, ⟨by first | exact Kd.R_nil _ _ _ _ _ | exact Kd.N_nil _ _ _ _ _ | exact Kd.V_nil _ _ _ _ _ | exact Kd.Q_nil _ _ _ _ _ | exact Kd.S_nil _ _ _ _ _⟩, ⟨by (with_reducible repeat (first | apply Kd.S_alloc | apply Kd.S_drewN | apply Kd.S_drew)); exact Kd.S_mono (Kd.S_far (p := ⟨ap, 1, none⟩) (Kd.S_far (p := ⟨ap, 0, none⟩) (Kd.S_types ce.out ah.out (by decide)) (fun _ hk => hk.2) (.int .i64 aD)) (fun _ hk => hk.2) (.slice fz dv.length fA)) (fun _ hk => trivial)⟩, ⟨by (with_reducible repeat (first | refine zN ?_ _ | refine zD ?_ | refine zA ?_ _)); refine blk_far ?_ bd.out _; (with_reducible repeat (first | refine zN ?_ _ | refine zD ?_ | refine zA ?_ _)); refine blk_far ?_ bd.out _; (with_reducible repeat (first | refine zN ?_ _ | refine zD ?_ | refine zA ?_ _)); exact ag.out⟩, ⟨by (with_reducible repeat (first | refine zN ?_ _ | refine zD ?_ | refine zA ?_ _)); refine blk_far ?_ be.out _; (with_reducible repeat (first | refine zN ?_ _ | refine zD ?_ | refine zA ?_ _)); refine blk_far ?_ be.out _; (with_reducible repeat (first | refine zN ?_ _ | refine zD ?_ | refine zA ?_ _)); exact ai.out⟩, ⟨by (with_reducible repeat (first | refine zN ?_ _ | refine zD ?_ | refine zA ?_ _)); refine blk_put (cs := #[.int .i64 aD, .slice none 0 0]) ?_ 1 _ rfl; (with_reducible repeat (first | refine zN ?_ _ | refine zD ?_ | refine zA ?_ _)); refine blk_put (cs := #[.int .i64 0, .slice none 0 0]) ?_ 0 _ rfl; (with_reducible repeat (first | refine zN ?_ _ | refine zD ?_ | refine zA ?_ _)); exact ah.out⟩, ⟨zb HB⟩⟩
    case round =>
     clear H'
     try clear c1
     try clear c2
     try clear p2
     try clear c3
     try clear c6
     try clear c7
     try clear fo
     try clear c12
     try clear c15
     try clear fu
     try clear c20
     try clear c22
     try clear c26
     try clear c30
     try clear c31
     try clear cH
     try clear cI
     try clear cL
     try clear cM
     try clear d2
     try clear d3
     try clear d6
     try clear d7
     try clear ea
     try clear eb
     try clear ee
     try clear ef
     try clear dp
     try clear dq
     try clear cJ
     try clear cK
     try clear cN
     try clear cO
     try clear d4
     try clear d5
     try clear d8
     try clear d9
     try clear ec
     try clear ed
     try clear eg
     try clear eh
     try clear dr
     try clear dt
     try clear p2
     obtain ⟨bf, am, aa, u847001, HA, HK2, aC, ab, ag, ai, ah, HB⟩ := hrel
     cases gk with
     | zero => exact absurd HA.out (by simp [impl_TakeBag.l0])
     | succ k2 =>
      have H := HA.out; clear HA
      simp only [impl_TakeBag.l0] at H
      by_cases c34 : 0 ≤ ac
      ·rw [if_pos c34] at H
       have c34b0 : decide (0 ≤ ac) = true := decide_eq_true c34
       clear c34
       by_cases c35 : ac < (aa.length : Int)
       ·rw [if_pos c35] at H
        have c35b0 : decide (ac < (aa.length : Int)) = true := decide_eq_true c35
        clear c35
        obtain ⟨af, bQ⟩ : ∃ j_ : Int, (wrap64 (((rd_L2 aa ac).length : Int) - 1)) = j_ := ⟨_, rfl⟩
        replace H : (if 0 ≤ (af) then (if (af) < ((rd_L2 aa ac).length : Int) then (if ((rd_T30 (rd_L2 aa ac) (af)).f0) = a1 then (if (af) ≤ ((rd_L2 aa ac).length : Int) then (some (aD, (aa.set (ac : Int).toNat ((rd_L2 aa ac).take ((af) : Int).toNat)), bf, true)) else (none)) else ((impl_laneFor.f k2 aD aa ((rd_T30 (rd_L2 aa ac) (af)).f1) ac).bind fun aq => (if aq < 0 then ((impl_copyStore.f k2 a0_0 ar).bind fun bt859 => (some (bt859.1, bt859.2, ([] : List (S78)), false))) else (if (af) ≤ ((rd_L2 aa ac).length : Int) then ((some (aa.set (ac : Int).toNat ((rd_L2 aa ac).take ((af) : Int).toNat) : List (List (S30)))).bind fun a5 => (if 0 ≤ aq then (if aq < (aa.length : Int) then (if aq = ac then (none) else (if (rd_L2 a5 aq).length < 8796093022208 then (if bf.length < 5864062014805 then (impl_TakeBag.l0 k2 a1 ac (bf ++ [(⟨(rd_T30 (rd_L2 aa ac) (af)).f0, ac, aq⟩ : S78)]) a0_0 ar aD (a5.set (aq : Int).toNat ((rd_L2 a5 aq) ++ [(⟨(rd_T30 (rd_L2 aa ac) (af)).f0, (rd_T30 (rd_L2 aa ac) (af)).f1⟩ : S30)]))) else (none)) else (none))) else (none)) else (none))) else (none))))) else (none)) else (none)) = some (r1, r2, r3, r4) := by first | (rw [bQ] at H; exact H) | (simp only [bQ] at H ⊢; exact H)
        have hji36w : (IntKind.i64.wrap (((rd_L2 aa ac).length : Int) - 1)) = af := (i64_w _).trans bQ
        by_cases c37 : 0 ≤ (af)
        ·rw [if_pos c37] at H
         have c37b0 : decide (0 ≤ (af)) = true := decide_eq_true c37
         clear c37
         by_cases c38 : (af) < ((rd_L2 aa ac).length : Int)
         ·rw [if_pos c38] at H
          have c38b0 : decide ((af) < ((rd_L2 aa ac).length : Int)) = true := decide_eq_true c38
          clear c38
          by_cases eT : ((rd_T30 (rd_L2 aa ac) (af)).f0) = a1
          ·rw [if_pos eT] at H
           have fB : (((rd_T30 (rd_L2 aa ac) (af)).f0) == a1) = true := beq_iff_eq.mpr eT
           have fC : (((rd_T30 (rd_L2 aa ac) (af)).f0) != a1) = false := bne_eq_false_iff_eq.mpr eT
           clear eT
           by_cases fD : (af) ≤ ((rd_L2 aa ac).length : Int)
           ·rw [if_pos fD] at H
            have c40b0 := eq_true fD
            have c40b1 : decide ((af) ≤ ((rd_L2 aa ac).length : Int)) = true := decide_eq_true fD
            clear fD
            obtain ⟨b1, cf⟩ : ∃ y_ : List (S30), y_ = ((rd_L2 aa ac).take ((af) : Int).toNat) := ⟨_, rfl⟩
            replace H : (some (aD, (aa.set (ac : Int).toNat b1), bf, true)) = some (r1, r2, r3, r4) := by first | (rw [cf]; with_reducible exact H) | (have H2_ := (Option.bind_some _ _).symm.trans H; rw [cf]; with_reducible exact H2_) | (have H2_ := (Option.bind_some _ _).symm.trans H; with_reducible exact H2_) | with_reducible exact H | (rw [cf]; exact H) | exact H
            have Ny853 := zK cf; clear cf
            obtain ⟨fE, cg⟩ : ∃ y_ : List (List (S30)), y_ = (aa.set (ac : Int).toNat b1) := ⟨_, rfl⟩
            replace H : (some (aD, fE, bf, true)) = some (r1, r2, r3, r4) := by first | (rw [cg]; with_reducible exact H) | (have H2_ := (Option.bind_some _ _).symm.trans H; rw [cg]; with_reducible exact H2_) | (have H2_ := (Option.bind_some _ _).symm.trans H; with_reducible exact H2_) | with_reducible exact H | (rw [cg]; exact H) | exact H
            have Ny857 := zK cg; clear cg
            simp only [Option.some.injEq, Prod.mk.injEq] at H
            obtain ⟨rfl, rfl, rfl, rfl⟩ := H
            try go_wp2
            have aV := zK (Kd.R_drew aC.out)
            have aW := zK (Kd.S_drew ab.out)
            have aX := zK (zD ag.out)
            have a0 := zK (zD ai.out)
            have a6 := zK (zD ah.out)
            have a7 := zK (zE HB.out)
            clear aC ab ag ai ah HB; have aC := aV; have ab := aW; have ag := aX; have ai := a0; have ah := a6; have HB := a7; clear aV aW aX a0 a6 a7
            obtain ⟨Ao43, bc, fF⟩ := Kd.S_slice ab.out
            (first | subst fF | (injection fF with f1_ f2_ f3_; have f4_ := f1_.symm; have f5_ := f3_.symm; clear f1_ f2_ f3_; subst f4_; subst f5_))
            have bD : 0 ≤ (ac : Int) := zd
            have bE : ac < (aa.length : Int) := zd
            obtain ⟨aA, dw, bo, dx, aE, bh, bi⟩ := at_L2 (Kd.S_reads' ab.out).2.2 ac bD bE
            cases dx
            obtain ⟨eC, bR, bS, bs⟩ := Kd.S_get ab.out [] ac bD (by first | exact bE | exact zd | (have e_ := (Kd.S_reads' ab.out).1; omega))
            obtain ⟨cP, rfl, a2⟩ := bS
            have aJ := bs 0 _ rfl
            rw [Nat.add_zero, show ((Kd.slice 30 k30)).sz = 1 from rfl, Nat.mul_one] at aJ
            replace aJ := Option.some.inj (aJ.symm.trans aE)
            rw [aJ] at a2
            have ae := zK (show Kd.R k30 30 _ _ _ _ (rd_L2 aa ac) from a2)
            clear aJ a2; have aT := zK aE; clear bs bR; have au := zK bi; have cQ := zK bh; clear bi bh; replace bD := eq_true bD; replace bE := eq_true bE
            have bF : 0 ≤ (ac : Int) := zd
            have bG : ac < (aa.length : Int) := zd
            obtain ⟨ch, dy, dz, dA, aG, bj, bk⟩ := at_L2 (Kd.S_reads' ab.out).2.2 ac bF bG
            obtain rfl : aA = ch := (by injection dA)
            obtain ⟨eD, bT, bU, bt⟩ := Kd.S_get ab.out [] ac bF (by first | exact bG | exact zd | (have e_ := (Kd.S_reads' ab.out).1; omega))
            obtain ⟨cR, rfl, a3⟩ := bU
            have aK := bt 0 _ rfl
            rw [Nat.add_zero, show ((Kd.slice 30 k30)).sz = 1 from rfl, Nat.mul_one] at aK
            replace aK := Option.some.inj (aK.symm.trans aG)
            rw [aK] at a3
            have al := zK (show Kd.R k30 30 _ _ _ _ (rd_L2 aa ac) from a3)
            clear aK a3; have aU := zK aG; clear bt bT; have av := zK bk; have cS := zK bj; clear bk bj; replace bF := eq_true bF; replace bG := eq_true bG
            have ea_ := Option.some.inj (aE.symm.trans aG)
            injection ea_ with ea_ en_ ec_
            subst ea_; subst ec_; clear en_
            have bV : 0 ≤ ((af) : Int) := zd
            have bW : (af) < ((rd_L2 aa ac).length : Int) := zd
            obtain ⟨a4, dB, bl, bm⟩ := at_T30 (by repeat (first | (with_reducible exact au.out) | (with_reducible refine Kd.C_alloc ?_ _) | (with_reducible refine Kd.C_drewN ?_ _) | (with_reducible refine Kd.C_drew ?_) | exact au.out)) (af) bV bW
            cases dB
            replace bV := eq_true bV; replace bW := eq_true bW
            refine start_ (n := 16) (S := fun w' => w'.cell? ⟨ap, 0, none⟩ = some (.int .i64 aD) ∧ w'.cell? ⟨ap, 1, none⟩ = some (.slice (some aA) aa.length bc) ∧ w'.cell? (aA.add (ac).toNat) = some (.slice (some a4) (rd_L2 aa ac).length bo) ∧ w'.cell? (aA.add (ac).toNat) = some (.slice (some a4) (rd_L2 aa ac).length bo) ∧ w'.cell? (a4.add (((af)).toNat * 2)) = some (.int .i64 ((rd_T30 (rd_L2 aa ac) (af)).f0)) ∧ w'.cell? ⟨(a4.add (((af)).toNat * 2)).block, (a4.add (((af)).toNat * 2)).off + 1, none⟩ = some (.int .i64 ((rd_T30 (rd_L2 aa ac) (af)).f1))) (ds := []) #[ff, ff, ff, ff, ff, ff, ff, ff, ff, ff, ff, ff, ff, ff, ff, ff] (by kernel_rfl) rfl rfl ⟨(blk_cell ah.out 0).trans rfl, (blk_cell ah.out 1).trans rfl, aE, aG, bl, bm⟩ (fun hHeld => ?_); refine with_tabW impl_TakeBag.tab6 impl_TakeBag.bits6 (fun HT_ HW_ => ?_)
            generalize wr.drew = w42 at aC ab ag ai ah HB ae al au av aT aU aE aG bl bm hHeld ⊢
            refine zu 0 (some 26) #[tt, ff, ff, ff, ff, ff, ff, ff, ff, ff, ff, ff, ff, ff, ff, ff] (any_of HT_.out (by kernel_rfl)) ?_
            refine zu 2 (some 28) #[tt, ff, tt, ff, ff, ff, ff, ff, ff, ff, ff, ff, ff, ff, ff, ff] (any_of HT_.out (by kernel_rfl)) ?_
            refine zu 5 (some 31) #[tt, ff, tt, ff, ff, tt, ff, ff, ff, ff, ff, ff, ff, ff, ff, ff] (any_of HT_.out (by kernel_rfl)) ?_
            refine zu 7 (some 33) #[tt, ff, tt, ff, ff, tt, ff, tt, ff, ff, ff, ff, ff, ff, ff, ff] (any_of HT_.out (by kernel_rfl)) ?_
            refine zt 1 (some 27) #[tt, tt, tt, ff, ff, tt, ff, tt, ff, ff, ff, ff, ff, ff, ff, ff] (take_ofW HT_.out HW_.out (by kernel_rfl)) hHeld ?_
            refine zu 3 (some 29) #[tt, tt, tt, tt, ff, tt, ff, tt, ff, ff, ff, ff, ff, ff, ff, ff] (any_of HT_.out (by kernel_rfl)) ?_
            refine zt 4 (some 30) #[tt, tt, tt, tt, tt, tt, ff, tt, ff, ff, ff, ff, ff, ff, ff, ff] (take_ofW HT_.out HW_.out (by kernel_rfl)) hHeld ?_
            refine zt 6 (some 32) #[tt, tt, tt, tt, tt, tt, tt, tt, ff, ff, ff, ff, ff, ff, ff, ff] (take_ofW HT_.out HW_.out (by kernel_rfl)) hHeld ?_
            refine zu 8 (some 34) #[tt, tt, tt, tt, tt, tt, tt, tt, tt, ff, ff, ff, ff, ff, ff, ff] (any_of HT_.out (by kernel_rfl)) ?_
            refine zt 9 (some 35) #[tt, tt, tt, tt, tt, tt, tt, tt, tt, tt, ff, ff, ff, ff, ff, ff] (take_ofW HT_.out HW_.out (by kernel_rfl)) hHeld ?_
            refine zu 10 (some 36) #[tt, tt, tt, tt, tt, tt, tt, tt, tt, tt, tt, ff, ff, ff, ff, ff] (any_of HT_.out (by kernel_rfl)) ?_
            refine zu 11 (some 37) #[tt, tt, tt, tt, tt, tt, tt, tt, tt, tt, tt, tt, ff, ff, ff, ff] (any_of HT_.out (by kernel_rfl)) ?_
            refine zu 12 (some 38) #[tt, tt, tt, tt, tt, tt, tt, tt, tt, tt, tt, tt, tt, ff, ff, ff] (any_of HT_.out (by kernel_rfl)) ?_
            refine zt 13 (some 39) #[tt, tt, tt, tt, tt, tt, tt, tt, tt, tt, tt, tt, tt, tt, ff, ff] (take_ofW HT_.out HW_.out (by kernel_rfl)) hHeld ?_
            refine one_ (i := 14) (N := some 10) #[tt, tt, tt, tt, tt, tt, tt, tt, tt, tt, tt, tt, tt, tt, tt, ff] rfl rfl (one_of HT_.out (by kernel_rfl)) (by decide) (fun K hK => ?_)
            refine box_step ?hg (N := 10) ?hd (cs := #[.int .i64 0, .int .i64 0]) (t := 30) ?hr ?_; (case hd => rfl); (case hg => rfl); (case hr => first | (go_simp; done) | (go_simp; rfl))
            intro ad hg dn hbox hb
            have dC := (hb.cell (World.block_lt_of_cell? _ _ (hHeld.2.2.1))).trans (hHeld.2.2.1)
            have dD := (hb.cell (World.block_lt_of_cell? _ _ (hHeld.2.2.2.1))).trans (hHeld.2.2.2.1)
            have ci := (hb.cell (World.block_lt_of_cell? _ _ (hHeld.2.2.2.2.1))).trans (hHeld.2.2.2.2.1)
            have dE := (hb.cell (World.block_lt_of_cell? _ _ (hHeld.2.2.2.2.2))).trans (hHeld.2.2.2.2.2)
            have aV := zK (Kd.R_below (zR aC) hb)
            have aW := zK (Kd.S_below (Kd.S_elderB (zT ab) ad (Nat.le_of_eq hg.symm)) hb)
            have aX := zK (Kd.R_below (Kd.R_elderB (zR ae) ad (Nat.le_of_eq hg.symm)) hb)
            have a0 := zK (Kd.R_below (Kd.R_elderB (zR al) ad (Nat.le_of_eq hg.symm)) hb)
            have a6 := zK (blk_below (g := ao) (o := .cells #[.int .i64 a0_0, .slice aH ar.length aI] 24 (0, 0)) (zk ag) hb)
            have a7 := zK (blk_below (g := an) (o := .cells #[.int .i64 am, .slice none 0 0] 24 (0, 0)) (zk ai) hb)
            have bg := zK (blk_below (g := ap) (o := .cells #[.int .i64 aD, .slice (some aA) aa.length bc] 24 (0, 0)) (zk ah) hb)
            have br := zK (Kd.C_below (by repeat (first | (with_reducible exact au.out) | (with_reducible refine Kd.C_alloc ?_ _) | (with_reducible refine Kd.C_drewN ?_ _) | (with_reducible refine Kd.C_drew ?_) | exact au.out)) hb)
            have bx := zK (pw_cell_below hb aT.out)
            have bC := zK (Kd.C_below (by repeat (first | (with_reducible exact av.out) | (with_reducible refine Kd.C_alloc ?_ _) | (with_reducible refine Kd.C_drewN ?_ _) | (with_reducible refine Kd.C_drew ?_) | exact av.out)) hb)
            have bp := zK (pw_cell_below hb aU.out)
            have bX := zK (below_step (zb HB) hb)
            have cj := zK (hbox)
            have ck := zK ((by rw [hg]; exact (below_size (zb HB)) : w.heap.size ≤ ad))
            have cl := zK ((by rw [hg]; exact (below_size (zb HB)) : w.heap.size ≤ ad))
            have cm := zK ((by rw [hg]; exact Nat.ne_of_lt (blk_lt (g := ao) (o := .cells #[.int .i64 a0_0, .slice aH ar.length aI] 24 (0, 0)) (zk ag)) : ao ≠ ad))
            have cn := zK ((by rw [hg]; exact Nat.ne_of_gt (blk_lt (g := ao) (o := .cells #[.int .i64 a0_0, .slice aH ar.length aI] 24 (0, 0)) (zk ag)) : ad ≠ ao))
            have co := zK ((by rw [hg]; exact Nat.ne_of_lt (blk_lt (g := an) (o := .cells #[.int .i64 am, .slice none 0 0] 24 (0, 0)) (zk ai)) : an ≠ ad))
            have cp := zK ((by rw [hg]; exact Nat.ne_of_gt (blk_lt (g := an) (o := .cells #[.int .i64 am, .slice none 0 0] 24 (0, 0)) (zk ai)) : ad ≠ an))
            have cq := zK ((by rw [hg]; exact Nat.ne_of_lt (blk_lt (g := ap) (o := .cells #[.int .i64 aD, .slice (some aA) aa.length bc] 24 (0, 0)) (zk ah)) : ap ≠ ad))
            have cr := zK ((by rw [hg]; exact Nat.ne_of_gt (blk_lt (g := ap) (o := .cells #[.int .i64 aD, .slice (some aA) aa.length bc] 24 (0, 0)) (zk ah)) : ad ≠ ap))
            clear aC ab ae al ag ai ah au aT av aU HB; have aC := aV; have ab := aW; have ae := aX; have al := a0; have ag := a6; have ai := a7; have ah := bg; have au := br; have aT := bx; have av := bC; have aU := bp; have HB := bX; have aj := cj; have eE := ck; have ba := cl; have ax := cm; have aM := cn; have ay := co; have aN := cp; have ak := cq; have aQ := cr; clear aV aW aX a0 a6 a7 bg br bx bC bp bX cj ck cl cm cn co cp cq cr hb hbox hg
            refine hK.out _ _ ⟨(blk_cell ah.out 0).trans rfl, (blk_cell ah.out 1).trans rfl, dC, dD, ci, dE⟩ (fun hHeld => ?_)
            clear hK K
            refine norm_ (a' := ?_) ?_ ?_
            rotate_left
            ·show Act.put _ (some 10) _ = _
             simp only [Act.put, zp, zq, zr, i64_w, i32_w]
             rfl
            refine one_ (i := 15) (N := none) #[tt, tt, tt, tt, tt, tt, tt, tt, tt, tt, tt, tt, tt, tt, tt, tt] rfl rfl (one_of HT_.out (by kernel_rfl)) (by decide) (fun K hK => ?_)
            have hs45 : dn.cell? ⟨ad, 0, none⟩ = some (.int .i64 0) := (blk_cell aj.out 0).trans rfl
            have hfs45 := blk_frozen aj.out 0; have hns45_0 := ax.out; have hns45_1 := ay.out; have hns45_2 := ak.out; have hms45_0 := aM.out; have hms45_1 := aN.out; have hms45_2 := aQ.out
            have hs46 : dn.cell? ⟨ad, 1, none⟩ = some (.int .i64 0) := (blk_cell aj.out 1).trans rfl
            have hfs46 := blk_frozen aj.out 1; have hns46_0 := ax.out; have hns46_1 := ay.out; have hns46_2 := ak.out; have hms46_0 := aM.out; have hms46_1 := aN.out; have hms46_2 := aQ.out
            refine skip_ (w1 := ?_) (by rfl) rfl ?_ ?_
            rotate_left
            ·go_simp
             rfl
            refine hK.out _ _ ⟨((cell_far (p := ⟨ad, _, none⟩) ak.out _).trans (((cell_far (p := ⟨ad, _, none⟩) ak.out _).trans (hHeld.1)))), ((cell_far (p := ⟨ad, _, none⟩) ak.out _).trans (((cell_far (p := ⟨ad, _, none⟩) ak.out _).trans (hHeld.2.1)))), ((cell_far (p := ⟨ad, _, none⟩) (by first | exact Kd.own_blk (Kd.S_away ab.out (fun _ hk => hk.2)) | (rw [add_block]; exact Kd.own_blk (Kd.S_away ab.out (fun _ hk => hk.2))) | (show (Addr.add _ _).block ≠ _; rw [add_block]; exact Kd.own_blk (Kd.S_away ab.out (fun _ hk => hk.2))) | (dsimp only; exact Kd.own_blk (Kd.S_away ab.out (fun _ hk => hk.2)))) _).trans (((cell_far (p := ⟨ad, _, none⟩) (by first | exact Kd.own_blk (Kd.S_away ab.out (fun _ hk => hk.2)) | (rw [add_block]; exact Kd.own_blk (Kd.S_away ab.out (fun _ hk => hk.2))) | (show (Addr.add _ _).block ≠ _; rw [add_block]; exact Kd.own_blk (Kd.S_away ab.out (fun _ hk => hk.2))) | (dsimp only; exact Kd.own_blk (Kd.S_away ab.out (fun _ hk => hk.2)))) _).trans (hHeld.2.2.1)))), ((cell_far (p := ⟨ad, _, none⟩) (by first | exact Kd.own_blk (Kd.S_away ab.out (fun _ hk => hk.2)) | (rw [add_block]; exact Kd.own_blk (Kd.S_away ab.out (fun _ hk => hk.2))) | (show (Addr.add _ _).block ≠ _; rw [add_block]; exact Kd.own_blk (Kd.S_away ab.out (fun _ hk => hk.2))) | (dsimp only; exact Kd.own_blk (Kd.S_away ab.out (fun _ hk => hk.2)))) _).trans (((cell_far (p := ⟨ad, _, none⟩) (by first | exact Kd.own_blk (Kd.S_away ab.out (fun _ hk => hk.2)) | (rw [add_block]; exact Kd.own_blk (Kd.S_away ab.out (fun _ hk => hk.2))) | (show (Addr.add _ _).block ≠ _; rw [add_block]; exact Kd.own_blk (Kd.S_away ab.out (fun _ hk => hk.2))) | (dsimp only; exact Kd.own_blk (Kd.S_away ab.out (fun _ hk => hk.2)))) _).trans (hHeld.2.2.2.1)))), ((cell_far (p := ⟨ad, _, none⟩) (by first | exact Kd.own_blk (Kd.R_away ae.out (fun _ hk => hk.2)) | (rw [add_block]; exact Kd.own_blk (Kd.R_away ae.out (fun _ hk => hk.2))) | (show (Addr.add _ _).block ≠ _; rw [add_block]; exact Kd.own_blk (Kd.R_away ae.out (fun _ hk => hk.2))) | (dsimp only; exact Kd.own_blk (Kd.R_away ae.out (fun _ hk => hk.2)))) _).trans (((cell_far (p := ⟨ad, _, none⟩) (by first | exact Kd.own_blk (Kd.R_away ae.out (fun _ hk => hk.2)) | (rw [add_block]; exact Kd.own_blk (Kd.R_away ae.out (fun _ hk => hk.2))) | (show (Addr.add _ _).block ≠ _; rw [add_block]; exact Kd.own_blk (Kd.R_away ae.out (fun _ hk => hk.2))) | (dsimp only; exact Kd.own_blk (Kd.R_away ae.out (fun _ hk => hk.2)))) _).trans (hHeld.2.2.2.2.1)))), ((cell_far (p := ⟨ad, _, none⟩) (by first | exact Kd.own_blk (Kd.R_away ae.out (fun _ hk => hk.2)) | (rw [add_block]; exact Kd.own_blk (Kd.R_away ae.out (fun _ hk => hk.2))) | (show (Addr.add _ _).block ≠ _; rw [add_block]; exact Kd.own_blk (Kd.R_away ae.out (fun _ hk => hk.2))) | (dsimp only; exact Kd.own_blk (Kd.R_away ae.out (fun _ hk => hk.2)))) _).trans (((cell_far (p := ⟨ad, _, none⟩) (by first | exact Kd.own_blk (Kd.R_away ae.out (fun _ hk => hk.2)) | (rw [add_block]; exact Kd.own_blk (Kd.R_away ae.out (fun _ hk => hk.2))) | (show (Addr.add _ _).block ≠ _; rw [add_block]; exact Kd.own_blk (Kd.R_away ae.out (fun _ hk => hk.2))) | (dsimp only; exact Kd.own_blk (Kd.R_away ae.out (fun _ hk => hk.2)))) _).trans (hHeld.2.2.2.2.2))))⟩ (fun hHeld => ?_)
            clear hK K
            refine done_ (done_of HT_.out (by kernel_rfl)) ?_
            have aV : Aside0 (Kd.R k78 78 ((dn.setCell ⟨ad, 0, none⟩ (.int .i64 ((rd_T30 (rd_L2 aa ac) (af)).f0))).setCell ⟨ad, 1, none⟩ (.int .i64 ((rd_T30 (rd_L2 aa ac) (af)).f1))) w.heap.size (fun _ => True) u9 bf) := ⟨by (with_reducible repeat (first | apply Kd.R_alloc | apply Kd.R_drewN | apply Kd.R_drew)); exact Kd.R_mono (Kd.R_far (p := ⟨ad, 1, none⟩) (Kd.R_far (p := ⟨ad, 0, none⟩) (Kd.R_types aC.out aj.out (by decide)) (fun _ hk => hk.2) (.int .i64 ((rd_T30 (rd_L2 aa ac) (af)).f0))) (fun _ hk => hk.2) (.int .i64 ((rd_T30 (rd_L2 aa ac) (af)).f1))) (fun _ hk => trivial)⟩
            have aW : Aside0 (Kd.S (Kd.slice 30 k30) 28 ((dn.setCell ⟨ad, 0, none⟩ (.int .i64 ((rd_T30 (rd_L2 aa ac) (af)).f0))).setCell ⟨ad, 1, none⟩ (.int .i64 ((rd_T30 (rd_L2 aa ac) (af)).f1))) w.heap.size (fun k_ => k_ ≠ ad) (.slice (some aA) aa.length bc) aa) := ⟨by (with_reducible repeat (first | apply Kd.S_alloc | apply Kd.S_drewN | apply Kd.S_drew)); exact Kd.S_mono (Kd.S_far (p := ⟨ad, 1, none⟩) (Kd.S_far (p := ⟨ad, 0, none⟩) (Kd.S_mono ab.out (fun k_ hk => (⟨hk, hk.2⟩ : _ ∧ k_ ≠ ad))) (fun _ hk => hk.2) (.int .i64 ((rd_T30 (rd_L2 aa ac) (af)).f0))) (fun _ hk => hk.2) (.int .i64 ((rd_T30 (rd_L2 aa ac) (af)).f1))) (fun _ hk => hk.1.2)⟩
            have aX : Aside0 (Kd.R k30 30 ((dn.setCell ⟨ad, 0, none⟩ (.int .i64 ((rd_T30 (rd_L2 aa ac) (af)).f0))).setCell ⟨ad, 1, none⟩ (.int .i64 ((rd_T30 (rd_L2 aa ac) (af)).f1))) w.heap.size (fun k_ => some k_ ≠ (.slice (some aA) aa.length bc : Value).ownBlock ∧ k_ ≠ ad) (.slice (some a4) (rd_L2 aa ac).length bo) (rd_L2 aa ac)) := ⟨by (with_reducible repeat (first | apply Kd.R_alloc | apply Kd.R_drewN | apply Kd.R_drew)); exact Kd.R_mono (Kd.R_far (p := ⟨ad, 1, none⟩) (Kd.R_far (p := ⟨ad, 0, none⟩) (Kd.R_mono ae.out (fun k_ hk => (⟨hk, hk.2⟩ : _ ∧ k_ ≠ ad))) (fun _ hk => hk.2) (.int .i64 ((rd_T30 (rd_L2 aa ac) (af)).f0))) (fun _ hk => hk.2) (.int .i64 ((rd_T30 (rd_L2 aa ac) (af)).f1))) (fun _ hk => ⟨hk.1.1.2, hk.1.2⟩)⟩
            have a0 : Aside0 (Kd.R k30 30 ((dn.setCell ⟨ad, 0, none⟩ (.int .i64 ((rd_T30 (rd_L2 aa ac) (af)).f0))).setCell ⟨ad, 1, none⟩ (.int .i64 ((rd_T30 (rd_L2 aa ac) (af)).f1))) w.heap.size (fun k_ => some k_ ≠ (.slice (some aA) aa.length bc : Value).ownBlock ∧ k_ ≠ ad) (.slice (some a4) (rd_L2 aa ac).length bo) (rd_L2 aa ac)) := ⟨by (with_reducible repeat (first | apply Kd.R_alloc | apply Kd.R_drewN | apply Kd.R_drew)); exact Kd.R_mono (Kd.R_far (p := ⟨ad, 1, none⟩) (Kd.R_far (p := ⟨ad, 0, none⟩) (Kd.R_mono al.out (fun k_ hk => (⟨hk, hk.2⟩ : _ ∧ k_ ≠ ad))) (fun _ hk => hk.2) (.int .i64 ((rd_T30 (rd_L2 aa ac) (af)).f0))) (fun _ hk => hk.2) (.int .i64 ((rd_T30 (rd_L2 aa ac) (af)).f1))) (fun _ hk => ⟨hk.1.1.2, hk.1.2⟩)⟩
            have a6 : Aside0 (((dn.setCell ⟨ad, 0, none⟩ (.int .i64 ((rd_T30 (rd_L2 aa ac) (af)).f0))).setCell ⟨ad, 1, none⟩ (.int .i64 ((rd_T30 (rd_L2 aa ac) (af)).f1))).heap[ao]? = some (.cells #[.int .i64 a0_0, .slice aH ar.length aI] 24 (0, 0))) := ⟨by (with_reducible repeat (first | refine zN ?_ _ | refine zD ?_ | refine zA ?_ _)); refine blk_far ?_ ax.out _; (with_reducible repeat (first | refine zN ?_ _ | refine zD ?_ | refine zA ?_ _)); refine blk_far ?_ ax.out _; (with_reducible repeat (first | refine zN ?_ _ | refine zD ?_ | refine zA ?_ _)); exact ag.out⟩
            have a7 : Aside0 (((dn.setCell ⟨ad, 0, none⟩ (.int .i64 ((rd_T30 (rd_L2 aa ac) (af)).f0))).setCell ⟨ad, 1, none⟩ (.int .i64 ((rd_T30 (rd_L2 aa ac) (af)).f1))).heap[an]? = some (.cells #[.int .i64 am, .slice none 0 0] 24 (0, 0))) := ⟨by (with_reducible repeat (first | refine zN ?_ _ | refine zD ?_ | refine zA ?_ _)); refine blk_far ?_ ay.out _; (with_reducible repeat (first | refine zN ?_ _ | refine zD ?_ | refine zA ?_ _)); refine blk_far ?_ ay.out _; (with_reducible repeat (first | refine zN ?_ _ | refine zD ?_ | refine zA ?_ _)); exact ai.out⟩
            have bg : Aside0 (((dn.setCell ⟨ad, 0, none⟩ (.int .i64 ((rd_T30 (rd_L2 aa ac) (af)).f0))).setCell ⟨ad, 1, none⟩ (.int .i64 ((rd_T30 (rd_L2 aa ac) (af)).f1))).heap[ap]? = some (.cells #[.int .i64 aD, .slice (some aA) aa.length bc] 24 (0, 0))) := ⟨by (with_reducible repeat (first | refine zN ?_ _ | refine zD ?_ | refine zA ?_ _)); refine blk_far ?_ ak.out _; (with_reducible repeat (first | refine zN ?_ _ | refine zD ?_ | refine zA ?_ _)); refine blk_far ?_ ak.out _; (with_reducible repeat (first | refine zN ?_ _ | refine zD ?_ | refine zA ?_ _)); exact ah.out⟩
            have br : Aside0 (((dn.setCell ⟨ad, 0, none⟩ (.int .i64 ((rd_T30 (rd_L2 aa ac) (af)).f0))).setCell ⟨ad, 1, none⟩ (.int .i64 ((rd_T30 (rd_L2 aa ac) (af)).f1))).heap[ad]? = some (.cells #[.int .i64 ((rd_T30 (rd_L2 aa ac) (af)).f0), .int .i64 ((rd_T30 (rd_L2 aa ac) (af)).f1)] 30 (0, 0))) := ⟨by (with_reducible repeat (first | refine zN ?_ _ | refine zD ?_ | refine zA ?_ _)); refine blk_put (cs := #[.int .i64 ((rd_T30 (rd_L2 aa ac) (af)).f0), .int .i64 0]) ?_ 1 _ rfl; (with_reducible repeat (first | refine zN ?_ _ | refine zD ?_ | refine zA ?_ _)); refine blk_put (cs := #[.int .i64 0, .int .i64 0]) ?_ 0 _ rfl; (with_reducible repeat (first | refine zN ?_ _ | refine zD ?_ | refine zA ?_ _)); exact aj.out⟩
            have bx : Aside0 (Below w.heap.size w ((dn.setCell ⟨ad, 0, none⟩ (.int .i64 ((rd_T30 (rd_L2 aa ac) (af)).f0))).setCell ⟨ad, 1, none⟩ (.int .i64 ((rd_T30 (rd_L2 aa ac) (af)).f1)))) := ⟨zb HB⟩
            (try clear aC); (try clear ab); (try clear ae); (try clear al); (try clear ag); (try clear ai); (try clear ah); (try clear aj); (try clear HB)
            generalize ((dn.setCell ⟨ad, 0, none⟩ (.int .i64 ((rd_T30 (rd_L2 aa ac) (af)).f0))).setCell ⟨ad, 1, none⟩ (.int .i64 ((rd_T30 (rd_L2 aa ac) (af)).f1))) = eU at aV aW aX a0 a6 a7 bg br bx ⊢
            have aC := aV; have ab := aW; have ae := aX; have al := a0; have ag := a6; have ai := a7; have ah := bg; have aj := br; have HB := bx; clear aV aW aX a0 a6 a7 bg br bx; have hnb48 := aM.out; have hnc48 := ax.out; have hnb49 := aN.out; have hnc49 := ay.out; have hnb50 := aQ.out; have hnc50 := ak.out
            have hcz51_0 : eU.cell? ⟨ad, 0, none⟩ = some (.int .i64 ((rd_T30 (rd_L2 aa ac) (af)).f0)) := (blk_cell aj.out 0).trans rfl
            have hcz51_1 : eU.cell? ⟨ad, 1, none⟩ = some (.int .i64 ((rd_T30 (rd_L2 aa ac) (af)).f1)) := (blk_cell aj.out 1).trans rfl
            have hfz51_0 := blk_frozen aj.out 0; have hfz51_1 := blk_frozen aj.out 1; have hnb52 := bv.out; have hnc52 := bd.out; have hnb53 := bw.out; have hnc53 := be.out
            have hcz54_0 : eU.cell? ⟨ap, 0, none⟩ = some (.int .i64 aD) := (blk_cell ah.out 0).trans rfl
            have hcz54_1 : eU.cell? ⟨ap, 1, none⟩ = some (.slice (some aA) aa.length bc) := (blk_cell ah.out 1).trans rfl
            have hfz54_0 := blk_frozen ah.out 0; have hfz54_1 := blk_frozen ah.out 1
            have ei : 0 ≤ (ac : Int) := zd
            have ej : ac < (aa.length : Int) := zd
            obtain ⟨fG, A851_0, bL, e851, b2, cT, cU⟩ := at_L2 (Kd.S_reads' ab.out).2.2 ac ei ej
            obtain rfl : aA = fG := (by injection e851)
            obtain ⟨ce851, eV, eW, dF⟩ := Kd.S_get ab.out [] ac ei (by first | exact ej | exact zd | (have e_ := (Kd.S_reads' ab.out).1; omega))
            obtain ⟨ve851_0, rfl, b3⟩ := eW
            have bH := dF 0 _ rfl
            rw [Nat.add_zero, show ((Kd.slice 30 k30)).sz = 1 from rfl, Nat.mul_one] at bH
            replace bH := Option.some.inj (bH.symm.trans b2)
            rw [bH] at b3
            have b4 := zK (show Kd.R k30 30 _ _ _ _ (rd_L2 aa ac) from b3)
            clear bH b3; have ek := zK b2; clear dF eV; have bO := zK cU; have cV := zK cT; clear cU cT; replace ei := eq_true ei; replace ej := eq_true ej
            have eX : 0 ≤ ((af) : Int) := zd
            have eY : (af) < ((rd_L2 aa ac).length : Int) := zd
            obtain ⟨cW, e852, cX, cY⟩ := at_T30 (by repeat (first | (with_reducible exact bO.out) | (with_reducible refine Kd.C_alloc ?_ _) | (with_reducible refine Kd.C_drewN ?_ _) | (with_reducible refine Kd.C_drew ?_) | exact bO.out)) (af) eX eY
            cases e852
            replace eX := eq_true eX; replace eY := eq_true eY
            have q55 : ((af) : Int) ≤ (((rd_L2 aa ac).length : Int) : Int) := zd
            obtain ⟨i055, eF, _, fH, _⟩ := info_parts info30
            have cZ : (rd_L2 aa ac).length ≤ bL := cV.out
            have fJ : Kd.C k30 _ (some cW) (rd_L2 aa ac).length (rd_L2 aa ac) := (by repeat (first | (with_reducible exact bO.out) | (with_reducible refine Kd.C_alloc ?_ _) | (with_reducible refine Kd.C_drewN ?_ _) | (with_reducible refine Kd.C_drew ?_) | exact bO.out))
            have eZ := cut_to (P := Try.prog) 28 30 .i64 Try.underlying28 eF (some cW) (rd_L2 aa ac).length bL (af) (zd) q55 cZ
            have e0 := Kd.C_take (m := ((af) : Int).toNat) fJ (by omega)
            have e1 : b1.length = ((af) : Int).toNat := (by rw [Ny853.out, List.length_take]; omega)
            rw [← Ny853.out] at e0
            rw [← e1] at eZ
            have HR856 := zK e0
            have HC856 := zK (show b1.length ≤ bL from by omega)
            clear e0 fJ cZ eF fH; have fK := zK e1; clear e1; replace q55 := eq_true q55
            have p41 : 0 ≤ (ac : Int) := zd
            have q41 : (ac : Int) < ((aa.length : Int) : Int) := zd
            obtain ⟨bz, co41, fL, fM, gl41, cl41, fN⟩ := Kd.S_form ab.out (by omega)
            (first | cases fL | (injection fL with ea_ en_ ec_; (first | subst ea_ | (injection ea_ with ea_; subst ea_)); subst ec_; clear en_))
            have GB41 := zK fM; have GG41 := zK fN; clear fM gl41 fN
            (first | simp only [add_plain] at aE | skip)
            (first | simp only [add_plain] at aG | skip)
            (first | simp only [add_plain] at b2 | skip)
            obtain ⟨_, ce41, fO, fP, eG, eH, _, _⟩ := Kd.S_elem ab.out [] (ac : Int) p41 q41
            obtain ⟨ve41_0, rfl, ge41_0⟩ := fP
            have e2 := eG 0 _ rfl; have e3 := eH 0; (try simp only [show ((Kd.slice 30 k30)).sz = 1 from rfl, Nat.mul_one, Nat.add_zero] at e2); (try simp only [show ((Kd.slice 30 k30)).sz = 1 from rfl, Nat.mul_one, Nat.add_zero] at e3)
            clear fO eG eH; (try clear fP)
            replace p41 := eq_true p41; replace q41 := eq_true q41
            have HX56 := zK (show Kd.S (Kd.slice 30 k30) 28 eU w.heap.size (fun k_ => ((fun k_ => k_ ≠ ad)) k_ ∧ ¬ ((fun _ => False)) k_) (.slice (some ⟨bz, 0, none⟩) aa.length bc) aa from (by (with_reducible repeat (first | apply Kd.S_alloc | apply Kd.S_drewN | apply Kd.S_drew)); exact Kd.S_mono ab.out (fun k_ hk => ⟨hk, fun e_ => e_⟩)))
            obtain ⟨fQ, ce56, fR, fT, dG, eI, e4, fU⟩ := Kd.S_elem HX56.out [] (ac : Int) (zd) (by have h_ : (ac : Int) < ((aa.length : Int) : Int) := zd; first | exact h_ | (have e_ := (Kd.S_reads' ab.out).1; omega) | simpa using h_)
            obtain ⟨ve56_0, rfl, e5⟩ := fT
            have dH := dG 0 _ rfl; have e6 := ek.out; (try simp only [add_plain] at e6); (try simp only [Nat.add_zero] at dH); (try rw [show ((Kd.slice 30 k30)).sz = 1 from rfl, Nat.mul_one] at dH)
            replace dH := Option.some.inj (dH.symm.trans e6)
            subst dH; clear e6
            have e7 := zK (show Kd.R k30 30 eU w.heap.size fQ (.slice (some cW) b1.length bL) b1 from by rw [fK.out, Ny853.out]; exact Kd.R_take e5 (by have h_ := of_eq_true q55; omega))
            have e8 := Kd.S_seg fU (zd) (by have h_ : (ac : Int) < ((aa.length : Int) : Int) := zd; first | exact h_ | (have e_ := (Kd.S_reads' ab.out).1; omega) | simpa using h_) (seg := [.slice (some cW) b1.length bL]) (j := 0) (show 1 ≤ 1 from by decide) (x' := b1) (Kd.M_row (Kd.R_mono e7.out (fun _ h_ => Or.inl h_))) (fun _ hk => hk) (fun k_ hk_ => hk_.elim)
            have cC := dG 0 _ rfl; (try simp only [show ((Kd.slice 30 k30)).sz = 1 from rfl, Nat.mul_one, Nat.add_zero] at cC); have cD := eI 0; (try simp only [show ((Kd.slice 30 k30)).sz = 1 from rfl, Nat.mul_one, Nat.add_zero] at cD)
            clear fR dG eI e4 fU; (try clear fT)
            (try simp only [show ((Kd.slice 30 k30)).sz = 1 from rfl, Nat.mul_one, Nat.add_zero] at e8)
            try go_wp2_with (first | (go_at_call 75; refine (pop_calls (b := ap) (deep := aD) (g := bz) (n := aa.length) (cap := bc) (lane := ac) (H := (af)) (k := ((rd_L2 aa ac).length)) (c := bL) (m := b1.length) _ (zk ah) (zd) (zd) (by first | exact cC | simpa using cC) (by first | exact cD | simpa using cD) (by first | rfl | assumption | exact Eq.symm (by assumption)) (zd) (zd) cV.out (by first | exact cX | simpa using cX) (by first | exact cY | simpa using cY) fK.out).mono ?_; rintro e fp ⟨rfl, hg0_, cE⟩; have hg : eU.grownBy fp (some bz) := hg0_; have hp_ : Kd.S (Kd.slice 30 k30) 28 fp w.heap.size (fun k_ => k_ ≠ ad) (.slice (some ⟨bz, 0, none⟩) aa.length bc) fE := (by rw [Ny857.out]; exact Opens.pop_S e8.1 cE); have hw := cE; clear cE hg0_; clear e8; have aV := zK (Kd.R_over' (v := (.slice (some ⟨bz, 0, none⟩) aa.length bc)) (zR aC) (Kd.S_typed ab.out) (by decide) hg); have aW := zK (hp_); have aX := zK (blk_grown (g := ao) (o := .cells #[.int .i64 a0_0, .slice aH ar.length aI] 24 (0, 0)) (zk ag) hg (Kd.S_ne ab.out ag.out (by decide))); have a0 := zK (blk_grown (g := an) (o := .cells #[.int .i64 am, .slice none 0 0] 24 (0, 0)) (zk ai) hg (Kd.S_ne ab.out ai.out (by decide))); have a6 := zK (blk_grown (g := ap) (o := .cells #[.int .i64 aD, .slice (some ⟨bz, 0, none⟩) aa.length bc] 24 (0, 0)) (zk ah) hg (Kd.S_ne ab.out ah.out (by decide))); have a7 := zK (Kd.R_after (v := (.slice (some ⟨bz, 0, none⟩) aa.length bc)) (v1 := (.slice (some ⟨bz, 0, none⟩) aa.length bc)) (ok := (fun k_ => k_ ≠ ad)) (by (with_reducible repeat (first | apply Kd.R_alloc | apply Kd.R_drewN | apply Kd.R_drew)); exact Kd.R_mono ae.out (fun _ hk => ⟨hk.2, hk.1⟩)) hg (.inl rfl)); have bg := zK (Kd.R_after (v := (.slice (some ⟨bz, 0, none⟩) aa.length bc)) (v1 := (.slice (some ⟨bz, 0, none⟩) aa.length bc)) (ok := (fun k_ => k_ ≠ ad)) (by (with_reducible repeat (first | apply Kd.R_alloc | apply Kd.R_drewN | apply Kd.R_drew)); exact Kd.R_mono al.out (fun _ hk => ⟨hk.2, hk.1⟩)) hg (.inl rfl)); have br := zK (blk_grown (g := ad) (o := .cells #[.int .i64 ((rd_T30 (rd_L2 aa ac) (af)).f0), .int .i64 ((rd_T30 (rd_L2 aa ac) (af)).f1)] 30 (0, 0)) (zk aj) hg (Kd.S_ne ab.out aj.out (by decide))); have bx := zK (Kd.R_after (v := (.slice (some ⟨bz, 0, none⟩) aa.length bc)) (v1 := (.slice (some ⟨bz, 0, none⟩) aa.length bc)) (ok := (fun k_ => k_ ≠ ad)) (zR b4) hg (.inl rfl)); have bC := zK ((Opens.below_of_grown (zb HB) hg GB41.out)); clear aC; clear ab; clear ag; clear ai; clear ah; clear ae; clear al; clear aj; clear b4; clear HB; have aC := aV; have ab := aW; have ag := aX; have ai := a0; have ah := a6; have ae := a7; have al := bg; have aj := br; have b4 := bx; have HB := bC; clear aV aW aX a0 a6 a7 bg br bx bC; clear hg hw hp_; have hcz58_0 : fp.cell? ⟨ap, 0, none⟩ = some (.int .i64 aD) := (blk_cell ah.out 0).trans rfl; have hcz58_1 : fp.cell? ⟨ap, 1, none⟩ = some (.slice (some ⟨bz, 0, none⟩) aa.length bc) := (blk_cell ah.out 1).trans rfl; have hfz58_0 := blk_frozen ah.out 0; have hfz58_1 := blk_frozen ah.out 1; have hnb59 := a9.out; have hnc59 := a8.out; have hcz60_0 : fp.cell? ⟨an, 0, none⟩ = some (.int .i64 am) := (blk_cell ai.out 0).trans rfl; have hcz60_1 : fp.cell? ⟨an, 1, none⟩ = some (.slice none 0 0) := (blk_cell ai.out 1).trans rfl; have hfz60_0 := blk_frozen ai.out 0; have hfz60_1 := blk_frozen ai.out 1))
            refine bodyPost_ret (results_ctt rfl _ _ an 24 #[.int .i64 aD, .slice (some ⟨bz, 0, none⟩) aa.length bc] (0, 0) _ rfl (by (with_reducible repeat (first | refine zN ?_ _ | refine zD ?_ | refine zA ?_ _)); refine blk_put (cs := #[.int .i64 aD, .slice none 0 0]) ?_ 1 _ rfl; (with_reducible repeat (first | refine zN ?_ _ | refine zD ?_ | refine zA ?_ _)); refine blk_put (cs := #[.int .i64 am, .slice none 0 0]) ?_ 0 _ rfl; (with_reducible repeat (first | refine zN ?_ _ | refine zD ?_ | refine zA ?_ _)); exact ai.out) Try.underlying24 rfl (by kernel_rfl)) rfl ?_
            exact ⟨_, _, by first | rfl | (simp [errW_none, errW_some] <;> rfl) | (simp only [← bQ]; first | rfl | (simp [errW_none, errW_some] <;> rfl)) | (simp [*, errW_none, errW_some] <;> rfl), by (with_reducible repeat (first | apply Kd.S_alloc | apply Kd.S_drewN | apply Kd.S_drew)); exact Kd.S_mono (Kd.S_far (p := ⟨an, 1, none⟩) (Kd.S_far (p := ⟨an, 0, none⟩) (Kd.S_types ab.out ai.out (by decide)) (fun _ hk => hk.2) (.int .i64 aD)) (fun _ hk => hk.2) (.slice (some ⟨bz, 0, none⟩) aa.length bc)) (fun _ hk => trivial), by (with_reducible repeat (first | apply Kd.R_alloc | apply Kd.R_drewN | apply Kd.R_drew)); exact Kd.R_mono (Kd.R_far (p := ⟨an, 1, none⟩) (Kd.R_far (p := ⟨an, 0, none⟩) (Kd.R_types aC.out ai.out (by decide)) (fun _ hk => hk.2) (.int .i64 aD)) (fun _ hk => hk.2) (.slice (some ⟨bz, 0, none⟩) aa.length bc)) (fun _ hk => trivial), by repeat (first | (with_reducible first | exact HB.out | apply zB | apply zC | apply zE | refine zS ?_ aw.out | refine zS ?_ az.out | refine zS ?_ aR.out | refine zS ?_ ba.out) | exact HB.out)⟩
           ·rw [if_neg fD] at H
            exact absurd H (by simp)
          ·rw [if_neg eT] at H
           have fB : (((rd_T30 (rd_L2 aa ac) (af)).f0) == a1) = false := beq_eq_false_iff_ne.mpr eT
           have fC : (((rd_T30 (rd_L2 aa ac) (af)).f0) != a1) = true := bne_iff_ne.mpr eT
           replace H := Option.bind_eq_some_iff.mp H
           obtain ⟨aq, fV, H⟩ := H
           replace H : (if aq < 0 then ((impl_copyStore.f k2 a0_0 ar).bind fun bt859 => (some (bt859.1, bt859.2, ([] : List (S78)), false))) else (if (af) ≤ ((rd_L2 aa ac).length : Int) then ((some (aa.set (ac : Int).toNat ((rd_L2 aa ac).take ((af) : Int).toNat) : List (List (S30)))).bind fun a5 => (if 0 ≤ aq then (if aq < (aa.length : Int) then (if aq = ac then (none) else (if (rd_L2 a5 aq).length < 8796093022208 then (if bf.length < 5864062014805 then (impl_TakeBag.l0 k2 a1 ac (bf ++ [(⟨(rd_T30 (rd_L2 aa ac) (af)).f0, ac, aq⟩ : S78)]) a0_0 ar aD (a5.set (aq : Int).toNat ((rd_L2 a5 aq) ++ [(⟨(rd_T30 (rd_L2 aa ac) (af)).f0, (rd_T30 (rd_L2 aa ac) (af)).f1⟩ : S30)]))) else (none)) else (none))) else (none)) else (none))) else (none))) = some (r1, r2, r3, r4) := H
           have A61 := zK fV; clear fV
           by_cases fq : aq < 0
           ·rw [if_pos fq] at H
            have fW : decide (aq < 0) = true := decide_eq_true fq
            clear fq; replace H := Option.bind_eq_some_iff.mp H
            obtain ⟨⟨dI, el⟩, fX, H⟩ := H
            replace H : (some (dI, el, ([] : List (S78)), false)) = some (r1, r2, r3, r4) := H
            have A63 := zK fX; clear fX
            simp only [Option.some.injEq, Prod.mk.injEq] at H
            obtain ⟨rfl, rfl, rfl, rfl⟩ := H
            try go_wp2
            have aV := zK (Kd.R_drew aC.out)
            have aW := zK (Kd.S_drew ab.out)
            have aX := zK (zD ag.out)
            have a0 := zK (zD ai.out)
            have a6 := zK (zD ah.out)
            have a7 := zK (zE HB.out)
            clear aC ab ag ai ah HB; have aC := aV; have ab := aW; have ag := aX; have ai := a0; have ah := a6; have HB := a7; clear aV aW aX a0 a6 a7
            obtain ⟨Ao65, b5, fY⟩ := Kd.S_slice ab.out
            (first | subst fY | (injection fY with f1_ f2_ f3_; have f4_ := f1_.symm; have f5_ := f3_.symm; clear f1_ f2_ f3_; subst f4_; subst f5_))
            have bD : 0 ≤ (ac : Int) := zd
            have bE : ac < (aa.length : Int) := zd
            obtain ⟨aA, dw, bo, dx, aE, bh, bi⟩ := at_L2 (Kd.S_reads' ab.out).2.2 ac bD bE
            cases dx
            obtain ⟨eC, bR, bS, bs⟩ := Kd.S_get ab.out [] ac bD (by first | exact bE | exact zd | (have e_ := (Kd.S_reads' ab.out).1; omega))
            obtain ⟨cP, rfl, a2⟩ := bS
            have aJ := bs 0 _ rfl
            rw [Nat.add_zero, show ((Kd.slice 30 k30)).sz = 1 from rfl, Nat.mul_one] at aJ
            replace aJ := Option.some.inj (aJ.symm.trans aE)
            rw [aJ] at a2
            have ae := zK (show Kd.R k30 30 _ _ _ _ (rd_L2 aa ac) from a2)
            clear aJ a2; have aT := zK aE; clear bs bR; have au := zK bi; have cQ := zK bh; clear bi bh; replace bD := eq_true bD; replace bE := eq_true bE
            have bF : 0 ≤ (ac : Int) := zd
            have bG : ac < (aa.length : Int) := zd
            obtain ⟨ch, dy, dz, dA, aG, bj, bk⟩ := at_L2 (Kd.S_reads' ab.out).2.2 ac bF bG
            obtain rfl : aA = ch := (by injection dA)
            obtain ⟨eD, bT, bU, bt⟩ := Kd.S_get ab.out [] ac bF (by first | exact bG | exact zd | (have e_ := (Kd.S_reads' ab.out).1; omega))
            obtain ⟨cR, rfl, a3⟩ := bU
            have aK := bt 0 _ rfl
            rw [Nat.add_zero, show ((Kd.slice 30 k30)).sz = 1 from rfl, Nat.mul_one] at aK
            replace aK := Option.some.inj (aK.symm.trans aG)
            rw [aK] at a3
            have al := zK (show Kd.R k30 30 _ _ _ _ (rd_L2 aa ac) from a3)
            clear aK a3; have aU := zK aG; clear bt bT; have av := zK bk; have cS := zK bj; clear bk bj; replace bF := eq_true bF; replace bG := eq_true bG
            have ea_ := Option.some.inj (aE.symm.trans aG)
            injection ea_ with ea_ en_ ec_
            subst ea_; subst ec_; clear en_
            have bV : 0 ≤ ((af) : Int) := zd
            have bW : (af) < ((rd_L2 aa ac).length : Int) := zd
            obtain ⟨a4, dB, bl, bm⟩ := at_T30 (by repeat (first | (with_reducible exact au.out) | (with_reducible refine Kd.C_alloc ?_ _) | (with_reducible refine Kd.C_drewN ?_ _) | (with_reducible refine Kd.C_drew ?_) | exact au.out)) (af) bV bW
            cases dB
            replace bV := eq_true bV; replace bW := eq_true bW
            refine start_ (n := 16) (S := fun w' => w'.cell? ⟨ap, 0, none⟩ = some (.int .i64 aD) ∧ w'.cell? ⟨ap, 1, none⟩ = some (.slice (some aA) aa.length b5) ∧ w'.cell? (aA.add (ac).toNat) = some (.slice (some a4) (rd_L2 aa ac).length bo) ∧ w'.cell? (aA.add (ac).toNat) = some (.slice (some a4) (rd_L2 aa ac).length bo) ∧ w'.cell? (a4.add (((af)).toNat * 2)) = some (.int .i64 ((rd_T30 (rd_L2 aa ac) (af)).f0)) ∧ w'.cell? ⟨(a4.add (((af)).toNat * 2)).block, (a4.add (((af)).toNat * 2)).off + 1, none⟩ = some (.int .i64 ((rd_T30 (rd_L2 aa ac) (af)).f1))) (ds := []) #[ff, ff, ff, ff, ff, ff, ff, ff, ff, ff, ff, ff, ff, ff, ff, ff] (by kernel_rfl) rfl rfl ⟨(blk_cell ah.out 0).trans rfl, (blk_cell ah.out 1).trans rfl, aE, aG, bl, bm⟩ (fun hHeld => ?_); refine with_tabW impl_TakeBag.tab6 impl_TakeBag.bits6 (fun HT_ HW_ => ?_)
            generalize wr.drew = w64 at aC ab ag ai ah HB ae al au av aT aU aE aG bl bm hHeld ⊢
            refine zu 0 (some 26) #[tt, ff, ff, ff, ff, ff, ff, ff, ff, ff, ff, ff, ff, ff, ff, ff] (any_of HT_.out (by kernel_rfl)) ?_
            refine zu 2 (some 28) #[tt, ff, tt, ff, ff, ff, ff, ff, ff, ff, ff, ff, ff, ff, ff, ff] (any_of HT_.out (by kernel_rfl)) ?_
            refine zu 5 (some 31) #[tt, ff, tt, ff, ff, tt, ff, ff, ff, ff, ff, ff, ff, ff, ff, ff] (any_of HT_.out (by kernel_rfl)) ?_
            refine zu 7 (some 33) #[tt, ff, tt, ff, ff, tt, ff, tt, ff, ff, ff, ff, ff, ff, ff, ff] (any_of HT_.out (by kernel_rfl)) ?_
            refine zt 1 (some 27) #[tt, tt, tt, ff, ff, tt, ff, tt, ff, ff, ff, ff, ff, ff, ff, ff] (take_ofW HT_.out HW_.out (by kernel_rfl)) hHeld ?_
            refine zu 3 (some 29) #[tt, tt, tt, tt, ff, tt, ff, tt, ff, ff, ff, ff, ff, ff, ff, ff] (any_of HT_.out (by kernel_rfl)) ?_
            refine zt 4 (some 30) #[tt, tt, tt, tt, tt, tt, ff, tt, ff, ff, ff, ff, ff, ff, ff, ff] (take_ofW HT_.out HW_.out (by kernel_rfl)) hHeld ?_
            refine zt 6 (some 32) #[tt, tt, tt, tt, tt, tt, tt, tt, ff, ff, ff, ff, ff, ff, ff, ff] (take_ofW HT_.out HW_.out (by kernel_rfl)) hHeld ?_
            refine zu 8 (some 34) #[tt, tt, tt, tt, tt, tt, tt, tt, tt, ff, ff, ff, ff, ff, ff, ff] (any_of HT_.out (by kernel_rfl)) ?_
            refine zt 9 (some 35) #[tt, tt, tt, tt, tt, tt, tt, tt, tt, tt, ff, ff, ff, ff, ff, ff] (take_ofW HT_.out HW_.out (by kernel_rfl)) hHeld ?_
            refine zu 10 (some 36) #[tt, tt, tt, tt, tt, tt, tt, tt, tt, tt, tt, ff, ff, ff, ff, ff] (any_of HT_.out (by kernel_rfl)) ?_
            refine zu 11 (some 37) #[tt, tt, tt, tt, tt, tt, tt, tt, tt, tt, tt, tt, ff, ff, ff, ff] (any_of HT_.out (by kernel_rfl)) ?_
            refine zu 12 (some 38) #[tt, tt, tt, tt, tt, tt, tt, tt, tt, tt, tt, tt, tt, ff, ff, ff] (any_of HT_.out (by kernel_rfl)) ?_
            refine zt 13 (some 39) #[tt, tt, tt, tt, tt, tt, tt, tt, tt, tt, tt, tt, tt, tt, ff, ff] (take_ofW HT_.out HW_.out (by kernel_rfl)) hHeld ?_
            refine one_ (i := 14) (N := some 10) #[tt, tt, tt, tt, tt, tt, tt, tt, tt, tt, tt, tt, tt, tt, tt, ff] rfl rfl (one_of HT_.out (by kernel_rfl)) (by decide) (fun K hK => ?_)
            refine box_step ?hg (N := 10) ?hd (cs := #[.int .i64 0, .int .i64 0]) (t := 30) ?hr ?_; (case hd => rfl); (case hg => rfl); (case hr => first | (go_simp; done) | (go_simp; rfl))
            intro ad hg fr hbox hb
            have dC := (hb.cell (World.block_lt_of_cell? _ _ (hHeld.2.2.1))).trans (hHeld.2.2.1)
            have dD := (hb.cell (World.block_lt_of_cell? _ _ (hHeld.2.2.2.1))).trans (hHeld.2.2.2.1)
            have ci := (hb.cell (World.block_lt_of_cell? _ _ (hHeld.2.2.2.2.1))).trans (hHeld.2.2.2.2.1)
            have dE := (hb.cell (World.block_lt_of_cell? _ _ (hHeld.2.2.2.2.2))).trans (hHeld.2.2.2.2.2)
            have aV := zK (Kd.R_below (zR aC) hb)
            have aW := zK (Kd.S_below (Kd.S_elderB (zT ab) ad (Nat.le_of_eq hg.symm)) hb)
            have aX := zK (Kd.R_below (Kd.R_elderB (zR ae) ad (Nat.le_of_eq hg.symm)) hb)
            have a0 := zK (Kd.R_below (Kd.R_elderB (zR al) ad (Nat.le_of_eq hg.symm)) hb)
            have a6 := zK (blk_below (g := ao) (o := .cells #[.int .i64 a0_0, .slice aH ar.length aI] 24 (0, 0)) (zk ag) hb)
            have a7 := zK (blk_below (g := an) (o := .cells #[.int .i64 am, .slice none 0 0] 24 (0, 0)) (zk ai) hb)
            have bg := zK (blk_below (g := ap) (o := .cells #[.int .i64 aD, .slice (some aA) aa.length b5] 24 (0, 0)) (zk ah) hb)
            have br := zK (Kd.C_below (by repeat (first | (with_reducible exact au.out) | (with_reducible refine Kd.C_alloc ?_ _) | (with_reducible refine Kd.C_drewN ?_ _) | (with_reducible refine Kd.C_drew ?_) | exact au.out)) hb)
            have bx := zK (pw_cell_below hb aT.out)
            have bC := zK (Kd.C_below (by repeat (first | (with_reducible exact av.out) | (with_reducible refine Kd.C_alloc ?_ _) | (with_reducible refine Kd.C_drewN ?_ _) | (with_reducible refine Kd.C_drew ?_) | exact av.out)) hb)
            have bp := zK (pw_cell_below hb aU.out)
            have bX := zK (below_step (zb HB) hb)
            have cj := zK (hbox)
            have ck := zK ((by rw [hg]; exact (below_size (zb HB)) : w.heap.size ≤ ad))
            have cl := zK ((by rw [hg]; exact (below_size (zb HB)) : w.heap.size ≤ ad))
            have cm := zK ((by rw [hg]; exact Nat.ne_of_lt (blk_lt (g := ao) (o := .cells #[.int .i64 a0_0, .slice aH ar.length aI] 24 (0, 0)) (zk ag)) : ao ≠ ad))
            have cn := zK ((by rw [hg]; exact Nat.ne_of_gt (blk_lt (g := ao) (o := .cells #[.int .i64 a0_0, .slice aH ar.length aI] 24 (0, 0)) (zk ag)) : ad ≠ ao))
            have co := zK ((by rw [hg]; exact Nat.ne_of_lt (blk_lt (g := an) (o := .cells #[.int .i64 am, .slice none 0 0] 24 (0, 0)) (zk ai)) : an ≠ ad))
            have cp := zK ((by rw [hg]; exact Nat.ne_of_gt (blk_lt (g := an) (o := .cells #[.int .i64 am, .slice none 0 0] 24 (0, 0)) (zk ai)) : ad ≠ an))
            have cq := zK ((by rw [hg]; exact Nat.ne_of_lt (blk_lt (g := ap) (o := .cells #[.int .i64 aD, .slice (some aA) aa.length b5] 24 (0, 0)) (zk ah)) : ap ≠ ad))
            have cr := zK ((by rw [hg]; exact Nat.ne_of_gt (blk_lt (g := ap) (o := .cells #[.int .i64 aD, .slice (some aA) aa.length b5] 24 (0, 0)) (zk ah)) : ad ≠ ap))
            clear aC ab ae al ag ai ah au aT av aU HB; have aC := aV; have ab := aW; have ae := aX; have al := a0; have ag := a6; have ai := a7; have ah := bg; have au := br; have aT := bx; have av := bC; have aU := bp; have HB := bX; have aj := cj; have eE := ck; have ba := cl; have ax := cm; have aM := cn; have ay := co; have aN := cp; have ak := cq; have aQ := cr; clear aV aW aX a0 a6 a7 bg br bx bC bp bX cj ck cl cm cn co cp cq cr hb hbox hg
            refine hK.out _ _ ⟨(blk_cell ah.out 0).trans rfl, (blk_cell ah.out 1).trans rfl, dC, dD, ci, dE⟩ (fun hHeld => ?_)
            clear hK K
            refine norm_ (a' := ?_) ?_ ?_
            rotate_left
            ·show Act.put _ (some 10) _ = _
             simp only [Act.put, zp, zq, zr, i64_w, i32_w]
             rfl
            refine one_ (i := 15) (N := none) #[tt, tt, tt, tt, tt, tt, tt, tt, tt, tt, tt, tt, tt, tt, tt, tt] rfl rfl (one_of HT_.out (by kernel_rfl)) (by decide) (fun K hK => ?_)
            have hs67 : fr.cell? ⟨ad, 0, none⟩ = some (.int .i64 0) := (blk_cell aj.out 0).trans rfl
            have hfs67 := blk_frozen aj.out 0; have hns67_0 := ax.out; have hns67_1 := ay.out; have hns67_2 := ak.out; have hms67_0 := aM.out; have hms67_1 := aN.out; have hms67_2 := aQ.out
            have hs68 : fr.cell? ⟨ad, 1, none⟩ = some (.int .i64 0) := (blk_cell aj.out 1).trans rfl
            have hfs68 := blk_frozen aj.out 1; have hns68_0 := ax.out; have hns68_1 := ay.out; have hns68_2 := ak.out; have hms68_0 := aM.out; have hms68_1 := aN.out; have hms68_2 := aQ.out
            refine skip_ (w1 := ?_) (by rfl) rfl ?_ ?_
            rotate_left
            ·go_simp
             rfl
            refine hK.out _ _ ⟨((cell_far (p := ⟨ad, _, none⟩) ak.out _).trans (((cell_far (p := ⟨ad, _, none⟩) ak.out _).trans (hHeld.1)))), ((cell_far (p := ⟨ad, _, none⟩) ak.out _).trans (((cell_far (p := ⟨ad, _, none⟩) ak.out _).trans (hHeld.2.1)))), ((cell_far (p := ⟨ad, _, none⟩) (by first | exact Kd.own_blk (Kd.S_away ab.out (fun _ hk => hk.2)) | (rw [add_block]; exact Kd.own_blk (Kd.S_away ab.out (fun _ hk => hk.2))) | (show (Addr.add _ _).block ≠ _; rw [add_block]; exact Kd.own_blk (Kd.S_away ab.out (fun _ hk => hk.2))) | (dsimp only; exact Kd.own_blk (Kd.S_away ab.out (fun _ hk => hk.2)))) _).trans (((cell_far (p := ⟨ad, _, none⟩) (by first | exact Kd.own_blk (Kd.S_away ab.out (fun _ hk => hk.2)) | (rw [add_block]; exact Kd.own_blk (Kd.S_away ab.out (fun _ hk => hk.2))) | (show (Addr.add _ _).block ≠ _; rw [add_block]; exact Kd.own_blk (Kd.S_away ab.out (fun _ hk => hk.2))) | (dsimp only; exact Kd.own_blk (Kd.S_away ab.out (fun _ hk => hk.2)))) _).trans (hHeld.2.2.1)))), ((cell_far (p := ⟨ad, _, none⟩) (by first | exact Kd.own_blk (Kd.S_away ab.out (fun _ hk => hk.2)) | (rw [add_block]; exact Kd.own_blk (Kd.S_away ab.out (fun _ hk => hk.2))) | (show (Addr.add _ _).block ≠ _; rw [add_block]; exact Kd.own_blk (Kd.S_away ab.out (fun _ hk => hk.2))) | (dsimp only; exact Kd.own_blk (Kd.S_away ab.out (fun _ hk => hk.2)))) _).trans (((cell_far (p := ⟨ad, _, none⟩) (by first | exact Kd.own_blk (Kd.S_away ab.out (fun _ hk => hk.2)) | (rw [add_block]; exact Kd.own_blk (Kd.S_away ab.out (fun _ hk => hk.2))) | (show (Addr.add _ _).block ≠ _; rw [add_block]; exact Kd.own_blk (Kd.S_away ab.out (fun _ hk => hk.2))) | (dsimp only; exact Kd.own_blk (Kd.S_away ab.out (fun _ hk => hk.2)))) _).trans (hHeld.2.2.2.1)))), ((cell_far (p := ⟨ad, _, none⟩) (by first | exact Kd.own_blk (Kd.R_away ae.out (fun _ hk => hk.2)) | (rw [add_block]; exact Kd.own_blk (Kd.R_away ae.out (fun _ hk => hk.2))) | (show (Addr.add _ _).block ≠ _; rw [add_block]; exact Kd.own_blk (Kd.R_away ae.out (fun _ hk => hk.2))) | (dsimp only; exact Kd.own_blk (Kd.R_away ae.out (fun _ hk => hk.2)))) _).trans (((cell_far (p := ⟨ad, _, none⟩) (by first | exact Kd.own_blk (Kd.R_away ae.out (fun _ hk => hk.2)) | (rw [add_block]; exact Kd.own_blk (Kd.R_away ae.out (fun _ hk => hk.2))) | (show (Addr.add _ _).block ≠ _; rw [add_block]; exact Kd.own_blk (Kd.R_away ae.out (fun _ hk => hk.2))) | (dsimp only; exact Kd.own_blk (Kd.R_away ae.out (fun _ hk => hk.2)))) _).trans (hHeld.2.2.2.2.1)))), ((cell_far (p := ⟨ad, _, none⟩) (by first | exact Kd.own_blk (Kd.R_away ae.out (fun _ hk => hk.2)) | (rw [add_block]; exact Kd.own_blk (Kd.R_away ae.out (fun _ hk => hk.2))) | (show (Addr.add _ _).block ≠ _; rw [add_block]; exact Kd.own_blk (Kd.R_away ae.out (fun _ hk => hk.2))) | (dsimp only; exact Kd.own_blk (Kd.R_away ae.out (fun _ hk => hk.2)))) _).trans (((cell_far (p := ⟨ad, _, none⟩) (by first | exact Kd.own_blk (Kd.R_away ae.out (fun _ hk => hk.2)) | (rw [add_block]; exact Kd.own_blk (Kd.R_away ae.out (fun _ hk => hk.2))) | (show (Addr.add _ _).block ≠ _; rw [add_block]; exact Kd.own_blk (Kd.R_away ae.out (fun _ hk => hk.2))) | (dsimp only; exact Kd.own_blk (Kd.R_away ae.out (fun _ hk => hk.2)))) _).trans (hHeld.2.2.2.2.2))))⟩ (fun hHeld => ?_)
            clear hK K
            refine done_ (done_of HT_.out (by kernel_rfl)) ?_
            have hnb69 := aM.out; have hnc69 := ax.out; have hnb70 := aN.out; have hnc70 := ay.out; have hnb71 := aQ.out; have hnc71 := ak.out
            have hcz72_0 : fr.cell? ⟨ad, 0, none⟩ = some (.int .i64 0) := (blk_cell aj.out 0).trans rfl
            have hcz72_1 : fr.cell? ⟨ad, 1, none⟩ = some (.int .i64 0) := (blk_cell aj.out 1).trans rfl
            have hfz72_0 := blk_frozen aj.out 0; have hfz72_1 := blk_frozen aj.out 1; have hnb73 := bv.out; have hnc73 := bd.out; have hnb74 := bw.out; have hnc74 := be.out
            have hcz75_0 : fr.cell? ⟨ap, 0, none⟩ = some (.int .i64 aD) := (blk_cell ah.out 0).trans rfl
            have hcz75_1 : fr.cell? ⟨ap, 1, none⟩ = some (.slice (some aA) aa.length b5) := (blk_cell ah.out 1).trans rfl
            have hfz75_0 := blk_frozen ah.out 0; have hfz75_1 := blk_frozen ah.out 1
            try go_wp2_with (first | ((with_reducible refine gate_callee (f := 62) rfl ?_); refine goesL_ (some 52) rfl rfl Try.func62 (by kernel_rfl) rfl #[.agg #[.int .i64 aD, .slice (some aA) aa.length b5], .int .i64 ((rd_T30 (rd_L2 aa ac) (af)).f1), .int .i64 ac] rfl (by (try simp only [List.map_toArray, List.map_cons, List.map_nil]); first | done | (simp only [bQ]; rfl) | rfl | (simp only [List.length_drop, List.length_take]; rfl)) ?_; (with_reducible refine (impl_laneFor.calls k2 aD _ _ aa ((rd_T30 (rd_L2 aa ac) (af)).f1) ac aq _ ?side1 ?side2 A61.out).mono ?_); (case side1 => refine (Kd.S_reads' (e := 28) (base := w.heap.size) (ok := fun k_ => (True ∧ k_ ≠ ad)) (n := aa.length) (c := b5) ?_).2.2; exact (by (with_reducible repeat (first | apply Kd.S_alloc | apply Kd.S_drewN | apply Kd.S_drew)); exact (Kd.S_mono (Kd.S_far (p := ⟨ad, 1, none⟩) (Kd.S_far (p := ⟨ad, 0, none⟩) (Kd.S_mono ab.out (fun k_ hk => (⟨hk, hk.2⟩ : _ ∧ k_ ≠ ad))) (fun _ hk => hk.2) (.int .i64 ((rd_T30 (rd_L2 aa ac) (af)).f0))) (fun _ hk => hk.2) (.int .i64 ((rd_T30 (rd_L2 aa ac) (af)).f1))) (fun _ h_ => h_.1)))); (case side2 => exact (Kd.S_reads' ab.out).2.1); rintro e w76 ⟨rfl, hb⟩; refine ⟨_, rfl, ?_⟩; have aV := zK (Kd.R_below (by (with_reducible repeat (first | apply Kd.R_alloc | apply Kd.R_drewN | apply Kd.R_drew)); exact (Kd.R_mono (Kd.R_far (p := ⟨ad, 1, none⟩) (Kd.R_far (p := ⟨ad, 0, none⟩) (Kd.R_types aC.out aj.out (by decide)) (fun _ hk => hk.2) (.int .i64 ((rd_T30 (rd_L2 aa ac) (af)).f0))) (fun _ hk => hk.2) (.int .i64 ((rd_T30 (rd_L2 aa ac) (af)).f1))) (fun _ h_ => h_.1))) hb); have aW := zK (Kd.S_below (by (with_reducible repeat (first | apply Kd.S_alloc | apply Kd.S_drewN | apply Kd.S_drew)); exact (Kd.S_mono (Kd.S_far (p := ⟨ad, 1, none⟩) (Kd.S_far (p := ⟨ad, 0, none⟩) (Kd.S_mono ab.out (fun k_ hk => (⟨hk, hk.2⟩ : _ ∧ k_ ≠ ad))) (fun _ hk => hk.2) (.int .i64 ((rd_T30 (rd_L2 aa ac) (af)).f0))) (fun _ hk => hk.2) (.int .i64 ((rd_T30 (rd_L2 aa ac) (af)).f1))) (fun _ h_ => h_.1))) hb); have aX := zK (Kd.R_below (by (with_reducible repeat (first | apply Kd.R_alloc | apply Kd.R_drewN | apply Kd.R_drew)); exact (Kd.R_mono (Kd.R_far (p := ⟨ad, 1, none⟩) (Kd.R_far (p := ⟨ad, 0, none⟩) (Kd.R_mono ae.out (fun k_ hk => (⟨hk, hk.2⟩ : _ ∧ k_ ≠ ad))) (fun _ hk => hk.2) (.int .i64 ((rd_T30 (rd_L2 aa ac) (af)).f0))) (fun _ hk => hk.2) (.int .i64 ((rd_T30 (rd_L2 aa ac) (af)).f1))) (fun _ h_ => h_.1))) hb); have a0 := zK (Kd.R_below (by (with_reducible repeat (first | apply Kd.R_alloc | apply Kd.R_drewN | apply Kd.R_drew)); exact (Kd.R_mono (Kd.R_far (p := ⟨ad, 1, none⟩) (Kd.R_far (p := ⟨ad, 0, none⟩) (Kd.R_mono al.out (fun k_ hk => (⟨hk, hk.2⟩ : _ ∧ k_ ≠ ad))) (fun _ hk => hk.2) (.int .i64 ((rd_T30 (rd_L2 aa ac) (af)).f0))) (fun _ hk => hk.2) (.int .i64 ((rd_T30 (rd_L2 aa ac) (af)).f1))) (fun _ h_ => h_.1))) hb); have a6 := zK (blk_below (g := ao) (o := .cells #[.int .i64 a0_0, .slice aH ar.length aI] 24 (0, 0)) (by (with_reducible repeat (first | refine zN ?_ _ | refine zD ?_ | refine zA ?_ _)); refine blk_far ?_ ax.out _; (with_reducible repeat (first | refine zN ?_ _ | refine zD ?_ | refine zA ?_ _)); refine blk_far ?_ ax.out _; (with_reducible repeat (first | refine zN ?_ _ | refine zD ?_ | refine zA ?_ _)); exact ag.out) hb); have a7 := zK (blk_below (g := an) (o := .cells #[.int .i64 am, .slice none 0 0] 24 (0, 0)) (by (with_reducible repeat (first | refine zN ?_ _ | refine zD ?_ | refine zA ?_ _)); refine blk_far ?_ ay.out _; (with_reducible repeat (first | refine zN ?_ _ | refine zD ?_ | refine zA ?_ _)); refine blk_far ?_ ay.out _; (with_reducible repeat (first | refine zN ?_ _ | refine zD ?_ | refine zA ?_ _)); exact ai.out) hb); have bg := zK (blk_below (g := ap) (o := .cells #[.int .i64 aD, .slice (some aA) aa.length b5] 24 (0, 0)) (by (with_reducible repeat (first | refine zN ?_ _ | refine zD ?_ | refine zA ?_ _)); refine blk_far ?_ ak.out _; (with_reducible repeat (first | refine zN ?_ _ | refine zD ?_ | refine zA ?_ _)); refine blk_far ?_ ak.out _; (with_reducible repeat (first | refine zN ?_ _ | refine zD ?_ | refine zA ?_ _)); exact ah.out) hb); have br := zK (Kd.C_below ((Kd.R_reads' (by (with_reducible repeat (first | apply Kd.R_alloc | apply Kd.R_drewN | apply Kd.R_drew)); exact (Kd.R_mono (Kd.R_far (p := ⟨ad, 1, none⟩) (Kd.R_far (p := ⟨ad, 0, none⟩) (Kd.R_mono ae.out (fun k_ hk => (⟨hk, hk.2⟩ : _ ∧ k_ ≠ ad))) (fun _ hk => hk.2) (.int .i64 ((rd_T30 (rd_L2 aa ac) (af)).f0))) (fun _ hk => hk.2) (.int .i64 ((rd_T30 (rd_L2 aa ac) (af)).f1))) (fun _ h_ => h_.1)))).2.2) hb); have bx := zK (Kd.C_below ((Kd.R_reads' (by (with_reducible repeat (first | apply Kd.R_alloc | apply Kd.R_drewN | apply Kd.R_drew)); exact (Kd.R_mono (Kd.R_far (p := ⟨ad, 1, none⟩) (Kd.R_far (p := ⟨ad, 0, none⟩) (Kd.R_mono al.out (fun k_ hk => (⟨hk, hk.2⟩ : _ ∧ k_ ≠ ad))) (fun _ hk => hk.2) (.int .i64 ((rd_T30 (rd_L2 aa ac) (af)).f0))) (fun _ hk => hk.2) (.int .i64 ((rd_T30 (rd_L2 aa ac) (af)).f1))) (fun _ h_ => h_.1)))).2.2) hb); have bC := zK (blk_below (g := ad) (o := .cells #[.int .i64 ((rd_T30 (rd_L2 aa ac) (af)).f0), .int .i64 ((rd_T30 (rd_L2 aa ac) (af)).f1)] 30 (0, 0)) (by (with_reducible repeat (first | refine zN ?_ _ | refine zD ?_ | refine zA ?_ _)); refine blk_put (cs := #[.int .i64 ((rd_T30 (rd_L2 aa ac) (af)).f0), .int .i64 0]) ?_ 1 _ rfl; (with_reducible repeat (first | refine zN ?_ _ | refine zD ?_ | refine zA ?_ _)); refine blk_put (cs := #[.int .i64 0, .int .i64 0]) ?_ 0 _ rfl; (with_reducible repeat (first | refine zN ?_ _ | refine zD ?_ | refine zA ?_ _)); exact aj.out) hb); have bp := zK (below_step (zb HB) hb); clear aC; clear ab; clear ae; clear al; clear ag; clear ai; clear ah; clear au; clear av; clear aj; clear HB; have aC := aV; have ab := aW; have ae := aX; have al := a0; have ag := a6; have ai := a7; have ah := bg; have au := br; have av := bx; have aj := bC; have HB := bp; clear aV aW aX a0 a6 a7 bg br bx bC bp; (try clear hb); (try clear hk); have hnb77 := a8.out; have hnc77 := a9.out; have hcz78_0 : w76.cell? ⟨ao, 0, none⟩ = some (.int .i64 a0_0) := (blk_cell ag.out 0).trans rfl; have hcz78_1 : w76.cell? ⟨ao, 1, none⟩ = some (.slice aH ar.length aI) := (blk_cell ag.out 1).trans rfl; have hfz78_0 := blk_frozen ag.out 0; have hfz78_1 := blk_frozen ag.out 1) | ((with_reducible refine gate_callee (f := 67) rfl ?_); refine goesL_ (some 56) rfl rfl Try.func67 (by kernel_rfl) rfl #[.agg #[.int .i64 a0_0, .slice aH ar.length aI]] rfl (by (try simp only [List.map_toArray, List.map_cons, List.map_nil]); first | done | rfl | (simp only [List.length_drop, List.length_take]; rfl)) ?_; (with_reducible refine (impl_copyStore.calls k2 a0_0 _ _ ar dI el _ ?side1 ?side2 A63.out).mono ?_); (case side1 => repeat (first | exact (Kd.C_below bZ.out HB.out) | (with_reducible refine Kd.C_alloc ?_ _) | (with_reducible refine Kd.C_drewN ?_ _) | (with_reducible refine Kd.C_drew ?_))); (case side2 => exact b0.out); rintro e w79 ⟨v861, rfl, ho0, hb⟩; refine ⟨_, rfl, ?_⟩; have aV := zK (Kd.R_below (zR aC) hb); have aW := zK (Kd.S_elder' (zT ab) (Kd.S_base ho0) hb); have aX := zK (Kd.R_below (zR ae) hb); have a0 := zK (Kd.R_below (zR al) hb); have a6 := zK (Kd.S_lower (Kd.S_newB (Kd.S_new' (Kd.S_new' (Kd.S_new' ho0 (Kd.S_lt (zT ab))) (Kd.R_lt (zR ae))) (Kd.R_lt (zR al))) (g := ad) (o := .cells #[.int .i64 ((rd_T30 (rd_L2 aa ac) (af)).f0), .int .i64 ((rd_T30 (rd_L2 aa ac) (af)).f1)] 30 (0, 0)) (zk aj)) (below_size (zb HB))); have a7 := zK (blk_below (g := ao) (o := .cells #[.int .i64 a0_0, .slice aH ar.length aI] 24 (0, 0)) (zk ag) hb); have bg := zK (blk_below (g := an) (o := .cells #[.int .i64 am, .slice none 0 0] 24 (0, 0)) (zk ai) hb); have br := zK (blk_below (g := ap) (o := .cells #[.int .i64 aD, .slice (some aA) aa.length b5] 24 (0, 0)) (zk ah) hb); have bx := zK (Kd.C_below (by repeat (first | (with_reducible exact au.out) | (with_reducible refine Kd.C_alloc ?_ _) | (with_reducible refine Kd.C_drewN ?_ _) | (with_reducible refine Kd.C_drew ?_) | exact au.out)) hb); have bC := zK (Kd.C_below (by repeat (first | (with_reducible exact av.out) | (with_reducible refine Kd.C_alloc ?_ _) | (with_reducible refine Kd.C_drewN ?_ _) | (with_reducible refine Kd.C_drew ?_) | exact av.out)) hb); have bp := zK (blk_below (g := ad) (o := .cells #[.int .i64 ((rd_T30 (rd_L2 aa ac) (af)).f0), .int .i64 ((rd_T30 (rd_L2 aa ac) (af)).f1)] 30 (0, 0)) (zk aj) hb); have bX := zK (below_step (zb HB) hb); clear aC; clear ab; clear ae; clear al; clear ag; clear ai; clear ah; clear au; clear av; clear aj; clear HB; have aC := aV; have ab := aW; have ae := aX; have al := a0; have eJ := a6; have ag := a7; have ai := bg; have ah := br; have au := bx; have av := bC; have aj := bp; have HB := bX; clear aV aW aX a0 a6 a7 bg br bx bC bp bX; (try clear hb); (try clear hk); (try clear ho0); have hcz80_0 : w79.cell? ⟨an, 0, none⟩ = some (.int .i64 am) := (blk_cell ai.out 0).trans rfl; have hcz80_1 : w79.cell? ⟨an, 1, none⟩ = some (.slice none 0 0) := (blk_cell ai.out 1).trans rfl; have hfz80_0 := blk_frozen ai.out 0; have hfz80_1 := blk_frozen ai.out 1; obtain ⟨fZ, f2, eo81⟩ := Kd.S_slice eJ.out; subst eo81))
            refine bodyPost_ret (results_ctt rfl _ _ an 24 #[.int .i64 dI, .slice fZ el.length f2] (0, 0) _ rfl (by (with_reducible repeat (first | refine zN ?_ _ | refine zD ?_ | refine zA ?_ _)); refine blk_put (cs := #[.int .i64 dI, .slice none 0 0]) ?_ 1 _ rfl; (with_reducible repeat (first | refine zN ?_ _ | refine zD ?_ | refine zA ?_ _)); refine blk_put (cs := #[.int .i64 am, .slice none 0 0]) ?_ 0 _ rfl; (with_reducible repeat (first | refine zN ?_ _ | refine zD ?_ | refine zA ?_ _)); exact ai.out) Try.underlying24 rfl (by kernel_rfl)) rfl ?_
            exact ⟨_, _, by first | rfl | (simp [errW_none, errW_some] <;> rfl) | (simp only [← bQ]; first | rfl | (simp [errW_none, errW_some] <;> rfl)) | (simp [*, errW_none, errW_some] <;> rfl), by (with_reducible repeat (first | apply Kd.S_alloc | apply Kd.S_drewN | apply Kd.S_drew)); exact Kd.S_mono (Kd.S_far (p := ⟨an, 1, none⟩) (Kd.S_far (p := ⟨an, 0, none⟩) (Kd.S_types eJ.out ai.out (by decide)) (fun _ hk => hk.2) (.int .i64 dI)) (fun _ hk => hk.2) (.slice fZ el.length f2)) (fun _ hk => trivial), by first | exact Kd.R_nil _ _ _ _ _ | exact Kd.N_nil _ _ _ _ _ | exact Kd.V_nil _ _ _ _ _ | exact Kd.Q_nil _ _ _ _ _ | exact Kd.S_nil _ _ _ _ _, by repeat (first | (with_reducible first | exact HB.out | apply zB | apply zC | apply zE | refine zS ?_ aw.out | refine zS ?_ az.out | refine zS ?_ aR.out | refine zS ?_ ba.out) | exact HB.out)⟩
           ·rw [if_neg fq] at H
            have fW : decide (aq < 0) = false := decide_eq_false fq
            clear fq
            by_cases f3 : (af) ≤ ((rd_L2 aa ac).length : Int)
            ·rw [if_pos f3] at H
             have c82b0 := eq_true f3
             have c82b1 : decide ((af) ≤ ((rd_L2 aa ac).length : Int)) = true := decide_eq_true f3
             clear f3
             obtain ⟨b6, ct⟩ : ∃ y_ : List (S30), y_ = ((rd_L2 aa ac).take ((af) : Int).toNat) := ⟨_, rfl⟩
             replace H : ((some (aa.set (ac : Int).toNat b6 : List (List (S30)))).bind fun a5 => (if 0 ≤ aq then (if aq < (aa.length : Int) then (if aq = ac then (none) else (if (rd_L2 a5 aq).length < 8796093022208 then (if bf.length < 5864062014805 then (impl_TakeBag.l0 k2 a1 ac (bf ++ [(⟨(rd_T30 (rd_L2 aa ac) (af)).f0, ac, aq⟩ : S78)]) a0_0 ar aD (a5.set (aq : Int).toNat ((rd_L2 a5 aq) ++ [(⟨(rd_T30 (rd_L2 aa ac) (af)).f0, (rd_T30 (rd_L2 aa ac) (af)).f1⟩ : S30)]))) else (none)) else (none))) else (none)) else (none))) = some (r1, r2, r3, r4) := by first | (rw [ct]; with_reducible exact H) | (have H2_ := (Option.bind_some _ _).symm.trans H; rw [ct]; with_reducible exact H2_) | (have H2_ := (Option.bind_some _ _).symm.trans H; with_reducible exact H2_) | with_reducible exact H | (rw [ct]; exact H) | exact H
             have Ny865 := zK ct; clear ct
             obtain ⟨a5, cu⟩ : ∃ y_ : List (List (S30)), y_ = (aa.set (ac : Int).toNat b6) := ⟨_, rfl⟩
             replace H : (if 0 ≤ aq then (if aq < (aa.length : Int) then (if aq = ac then (none) else (if (rd_L2 a5 aq).length < 8796093022208 then (if bf.length < 5864062014805 then (impl_TakeBag.l0 k2 a1 ac (bf ++ [(⟨(rd_T30 (rd_L2 aa ac) (af)).f0, ac, aq⟩ : S78)]) a0_0 ar aD (a5.set (aq : Int).toNat ((rd_L2 a5 aq) ++ [(⟨(rd_T30 (rd_L2 aa ac) (af)).f0, (rd_T30 (rd_L2 aa ac) (af)).f1⟩ : S30)]))) else (none)) else (none))) else (none)) else (none)) = some (r1, r2, r3, r4) := by first | (rw [cu]; with_reducible exact H) | (have H2_ := (Option.bind_some _ _).symm.trans H; rw [cu]; with_reducible exact H2_) | (have H2_ := (Option.bind_some _ _).symm.trans H; with_reducible exact H2_) | with_reducible exact H | (rw [cu]; exact H) | exact H
             have Ny869 := zK cu; clear cu
             by_cases c84 : 0 ≤ aq
             ·rw [if_pos c84] at H
              have c84b0 : decide (0 ≤ aq) = true := decide_eq_true c84
              clear c84
              by_cases c85 : aq < (aa.length : Int)
              ·rw [if_pos c85] at H
               have c85b0 : decide (aq < (aa.length : Int)) = true := decide_eq_true c85
               clear c85
               by_cases c86 : aq = ac
               ·rw [if_pos c86] at H
                exact absurd H (by simp)
               ·rw [if_neg c86] at H
                have c86b0 : (aq == ac) = false := beq_eq_false_iff_ne.mpr c86
                have c86b1 : (aq != ac) = true := bne_iff_ne.mpr c86
                by_cases c87 : (rd_L2 a5 aq).length < 8796093022208
                ·rw [if_pos c87] at H
                 have f4 := zK c87; clear c87
                 obtain ⟨bM, cv⟩ : ∃ y_ : List (S30), y_ = ((rd_L2 a5 aq) ++ [(⟨(rd_T30 (rd_L2 aa ac) (af)).f0, (rd_T30 (rd_L2 aa ac) (af)).f1⟩ : S30)]) := ⟨_, rfl⟩
                 replace H : (if bf.length < 5864062014805 then (impl_TakeBag.l0 k2 a1 ac (bf ++ [(⟨(rd_T30 (rd_L2 aa ac) (af)).f0, ac, aq⟩ : S78)]) a0_0 ar aD (a5.set (aq : Int).toNat bM)) else (none)) = some (r1, r2, r3, r4) := by first | (rw [cv]; with_reducible exact H) | (have H2_ := (Option.bind_some _ _).symm.trans H; rw [cv]; with_reducible exact H2_) | (have H2_ := (Option.bind_some _ _).symm.trans H; with_reducible exact H2_) | with_reducible exact H | (rw [cv]; exact H) | exact H
                 have Ny871 := zK cv; clear cv
                 obtain ⟨em, cw⟩ : ∃ y_ : List (List (S30)), y_ = (a5.set (aq : Int).toNat bM) := ⟨_, rfl⟩
                 replace H : (if bf.length < 5864062014805 then (impl_TakeBag.l0 k2 a1 ac (bf ++ [(⟨(rd_T30 (rd_L2 aa ac) (af)).f0, ac, aq⟩ : S78)]) a0_0 ar aD em) else (none)) = some (r1, r2, r3, r4) := by first | (rw [cw]; with_reducible exact H) | (have H2_ := (Option.bind_some _ _).symm.trans H; rw [cw]; with_reducible exact H2_) | (have H2_ := (Option.bind_some _ _).symm.trans H; with_reducible exact H2_) | with_reducible exact H | (rw [cw]; exact H) | exact H
                 have Ny874 := zK cw; clear cw
                 by_cases c89 : bf.length < 5864062014805
                 ·rw [if_pos c89] at H
                  have f5 := zK c89; clear c89
                  obtain ⟨f6, cx⟩ : ∃ y_ : List (S78), y_ = (bf ++ [(⟨(rd_T30 (rd_L2 aa ac) (af)).f0, ac, aq⟩ : S78)]) := ⟨_, rfl⟩
                  replace H : (impl_TakeBag.l0 k2 a1 ac f6 a0_0 ar aD em) = some (r1, r2, r3, r4) := by first | (rw [cx]; with_reducible exact H) | (have H2_ := (Option.bind_some _ _).symm.trans H; rw [cx]; with_reducible exact H2_) | (have H2_ := (Option.bind_some _ _).symm.trans H; with_reducible exact H2_) | with_reducible exact H | (rw [cx]; exact H) | exact H
                  have Ny875 := zK cx; clear cx; have H' := zK H; clear H
                  try go_wp2
                  have aV := zK (Kd.R_drew aC.out)
                  have aW := zK (Kd.S_drew ab.out)
                  have aX := zK (zD ag.out)
                  have a0 := zK (zD ai.out)
                  have a6 := zK (zD ah.out)
                  have a7 := zK (zE HB.out)
                  clear aC ab ag ai ah HB; have aC := aV; have ab := aW; have ag := aX; have ai := a0; have ah := a6; have HB := a7; clear aV aW aX a0 a6 a7
                  obtain ⟨Ao91, bb, f7⟩ := Kd.S_slice ab.out
                  (first | subst f7 | (injection f7 with f1_ f2_ f3_; have f4_ := f1_.symm; have f5_ := f3_.symm; clear f1_ f2_ f3_; subst f4_; subst f5_))
                  have bD : 0 ≤ (ac : Int) := zd
                  have bE : ac < (aa.length : Int) := zd
                  obtain ⟨aA, dw, bo, dx, aE, bh, bi⟩ := at_L2 (Kd.S_reads' ab.out).2.2 ac bD bE
                  cases dx
                  obtain ⟨eC, bR, bS, bs⟩ := Kd.S_get ab.out [] ac bD (by first | exact bE | exact zd | (have e_ := (Kd.S_reads' ab.out).1; omega))
                  obtain ⟨cP, rfl, a2⟩ := bS
                  have aJ := bs 0 _ rfl
                  rw [Nat.add_zero, show ((Kd.slice 30 k30)).sz = 1 from rfl, Nat.mul_one] at aJ
                  replace aJ := Option.some.inj (aJ.symm.trans aE)
                  rw [aJ] at a2
                  have ae := zK (show Kd.R k30 30 _ _ _ _ (rd_L2 aa ac) from a2)
                  clear aJ a2; have aT := zK aE; clear bs bR; have au := zK bi; have cQ := zK bh; clear bi bh; replace bD := eq_true bD; replace bE := eq_true bE
                  have bF : 0 ≤ (ac : Int) := zd
                  have bG : ac < (aa.length : Int) := zd
                  obtain ⟨ch, dy, dz, dA, aG, bj, bk⟩ := at_L2 (Kd.S_reads' ab.out).2.2 ac bF bG
                  obtain rfl : aA = ch := (by injection dA)
                  obtain ⟨eD, bT, bU, bt⟩ := Kd.S_get ab.out [] ac bF (by first | exact bG | exact zd | (have e_ := (Kd.S_reads' ab.out).1; omega))
                  obtain ⟨cR, rfl, a3⟩ := bU
                  have aK := bt 0 _ rfl
                  rw [Nat.add_zero, show ((Kd.slice 30 k30)).sz = 1 from rfl, Nat.mul_one] at aK
                  replace aK := Option.some.inj (aK.symm.trans aG)
                  rw [aK] at a3
                  have al := zK (show Kd.R k30 30 _ _ _ _ (rd_L2 aa ac) from a3)
                  clear aK a3; have aU := zK aG; clear bt bT; have av := zK bk; have cS := zK bj; clear bk bj; replace bF := eq_true bF; replace bG := eq_true bG
                  have ea_ := Option.some.inj (aE.symm.trans aG)
                  injection ea_ with ea_ en_ ec_
                  subst ea_; subst ec_; clear en_
                  have bV : 0 ≤ ((af) : Int) := zd
                  have bW : (af) < ((rd_L2 aa ac).length : Int) := zd
                  obtain ⟨a4, dB, bl, bm⟩ := at_T30 (by repeat (first | (with_reducible exact au.out) | (with_reducible refine Kd.C_alloc ?_ _) | (with_reducible refine Kd.C_drewN ?_ _) | (with_reducible refine Kd.C_drew ?_) | exact au.out)) (af) bV bW
                  cases dB
                  replace bV := eq_true bV; replace bW := eq_true bW
                  refine start_ (n := 16) (S := fun w' => w'.cell? ⟨ap, 0, none⟩ = some (.int .i64 aD) ∧ w'.cell? ⟨ap, 1, none⟩ = some (.slice (some aA) aa.length bb) ∧ w'.cell? (aA.add (ac).toNat) = some (.slice (some a4) (rd_L2 aa ac).length bo) ∧ w'.cell? (aA.add (ac).toNat) = some (.slice (some a4) (rd_L2 aa ac).length bo) ∧ w'.cell? (a4.add (((af)).toNat * 2)) = some (.int .i64 ((rd_T30 (rd_L2 aa ac) (af)).f0)) ∧ w'.cell? ⟨(a4.add (((af)).toNat * 2)).block, (a4.add (((af)).toNat * 2)).off + 1, none⟩ = some (.int .i64 ((rd_T30 (rd_L2 aa ac) (af)).f1))) (ds := []) #[ff, ff, ff, ff, ff, ff, ff, ff, ff, ff, ff, ff, ff, ff, ff, ff] (by kernel_rfl) rfl rfl ⟨(blk_cell ah.out 0).trans rfl, (blk_cell ah.out 1).trans rfl, aE, aG, bl, bm⟩ (fun hHeld => ?_); refine with_tabW impl_TakeBag.tab6 impl_TakeBag.bits6 (fun HT_ HW_ => ?_)
                  generalize wr.drew = w90 at aC ab ag ai ah HB ae al au av aT aU aE aG bl bm hHeld ⊢
                  refine zu 0 (some 26) #[tt, ff, ff, ff, ff, ff, ff, ff, ff, ff, ff, ff, ff, ff, ff, ff] (any_of HT_.out (by kernel_rfl)) ?_
                  refine zu 2 (some 28) #[tt, ff, tt, ff, ff, ff, ff, ff, ff, ff, ff, ff, ff, ff, ff, ff] (any_of HT_.out (by kernel_rfl)) ?_
                  refine zu 5 (some 31) #[tt, ff, tt, ff, ff, tt, ff, ff, ff, ff, ff, ff, ff, ff, ff, ff] (any_of HT_.out (by kernel_rfl)) ?_
                  refine zu 7 (some 33) #[tt, ff, tt, ff, ff, tt, ff, tt, ff, ff, ff, ff, ff, ff, ff, ff] (any_of HT_.out (by kernel_rfl)) ?_
                  refine zt 1 (some 27) #[tt, tt, tt, ff, ff, tt, ff, tt, ff, ff, ff, ff, ff, ff, ff, ff] (take_ofW HT_.out HW_.out (by kernel_rfl)) hHeld ?_
                  refine zu 3 (some 29) #[tt, tt, tt, tt, ff, tt, ff, tt, ff, ff, ff, ff, ff, ff, ff, ff] (any_of HT_.out (by kernel_rfl)) ?_
                  refine zt 4 (some 30) #[tt, tt, tt, tt, tt, tt, ff, tt, ff, ff, ff, ff, ff, ff, ff, ff] (take_ofW HT_.out HW_.out (by kernel_rfl)) hHeld ?_
                  refine zt 6 (some 32) #[tt, tt, tt, tt, tt, tt, tt, tt, ff, ff, ff, ff, ff, ff, ff, ff] (take_ofW HT_.out HW_.out (by kernel_rfl)) hHeld ?_
                  refine zu 8 (some 34) #[tt, tt, tt, tt, tt, tt, tt, tt, tt, ff, ff, ff, ff, ff, ff, ff] (any_of HT_.out (by kernel_rfl)) ?_
                  refine zt 9 (some 35) #[tt, tt, tt, tt, tt, tt, tt, tt, tt, tt, ff, ff, ff, ff, ff, ff] (take_ofW HT_.out HW_.out (by kernel_rfl)) hHeld ?_
                  refine zu 10 (some 36) #[tt, tt, tt, tt, tt, tt, tt, tt, tt, tt, tt, ff, ff, ff, ff, ff] (any_of HT_.out (by kernel_rfl)) ?_
                  refine zu 11 (some 37) #[tt, tt, tt, tt, tt, tt, tt, tt, tt, tt, tt, tt, ff, ff, ff, ff] (any_of HT_.out (by kernel_rfl)) ?_
                  refine zu 12 (some 38) #[tt, tt, tt, tt, tt, tt, tt, tt, tt, tt, tt, tt, tt, ff, ff, ff] (any_of HT_.out (by kernel_rfl)) ?_
                  refine zt 13 (some 39) #[tt, tt, tt, tt, tt, tt, tt, tt, tt, tt, tt, tt, tt, tt, ff, ff] (take_ofW HT_.out HW_.out (by kernel_rfl)) hHeld ?_
                  refine one_ (i := 14) (N := some 10) #[tt, tt, tt, tt, tt, tt, tt, tt, tt, tt, tt, tt, tt, tt, tt, ff] rfl rfl (one_of HT_.out (by kernel_rfl)) (by decide) (fun K hK => ?_)
                  refine box_step ?hg (N := 10) ?hd (cs := #[.int .i64 0, .int .i64 0]) (t := 30) ?hr ?_; (case hd => rfl); (case hg => rfl); (case hr => first | (go_simp; done) | (go_simp; rfl))
                  intro ad hg fs hbox hb
                  have dC := (hb.cell (World.block_lt_of_cell? _ _ (hHeld.2.2.1))).trans (hHeld.2.2.1)
                  have dD := (hb.cell (World.block_lt_of_cell? _ _ (hHeld.2.2.2.1))).trans (hHeld.2.2.2.1)
                  have ci := (hb.cell (World.block_lt_of_cell? _ _ (hHeld.2.2.2.2.1))).trans (hHeld.2.2.2.2.1)
                  have dE := (hb.cell (World.block_lt_of_cell? _ _ (hHeld.2.2.2.2.2))).trans (hHeld.2.2.2.2.2)
                  have aV := zK (Kd.R_below (zR aC) hb)
                  have aW := zK (Kd.S_below (Kd.S_elderB (zT ab) ad (Nat.le_of_eq hg.symm)) hb)
                  have aX := zK (Kd.R_below (Kd.R_elderB (zR ae) ad (Nat.le_of_eq hg.symm)) hb)
                  have a0 := zK (Kd.R_below (Kd.R_elderB (zR al) ad (Nat.le_of_eq hg.symm)) hb)
                  have a6 := zK (blk_below (g := ao) (o := .cells #[.int .i64 a0_0, .slice aH ar.length aI] 24 (0, 0)) (zk ag) hb)
                  have a7 := zK (blk_below (g := an) (o := .cells #[.int .i64 am, .slice none 0 0] 24 (0, 0)) (zk ai) hb)
                  have bg := zK (blk_below (g := ap) (o := .cells #[.int .i64 aD, .slice (some aA) aa.length bb] 24 (0, 0)) (zk ah) hb)
                  have br := zK (Kd.C_below (by repeat (first | (with_reducible exact au.out) | (with_reducible refine Kd.C_alloc ?_ _) | (with_reducible refine Kd.C_drewN ?_ _) | (with_reducible refine Kd.C_drew ?_) | exact au.out)) hb)
                  have bx := zK (pw_cell_below hb aT.out)
                  have bC := zK (Kd.C_below (by repeat (first | (with_reducible exact av.out) | (with_reducible refine Kd.C_alloc ?_ _) | (with_reducible refine Kd.C_drewN ?_ _) | (with_reducible refine Kd.C_drew ?_) | exact av.out)) hb)
                  have bp := zK (pw_cell_below hb aU.out)
                  have bX := zK (below_step (zb HB) hb)
                  have cj := zK (hbox)
                  have ck := zK ((by rw [hg]; exact (below_size (zb HB)) : w.heap.size ≤ ad))
                  have cl := zK ((by rw [hg]; exact (below_size (zb HB)) : w.heap.size ≤ ad))
                  have cm := zK ((by rw [hg]; exact Nat.ne_of_lt (blk_lt (g := ao) (o := .cells #[.int .i64 a0_0, .slice aH ar.length aI] 24 (0, 0)) (zk ag)) : ao ≠ ad))
                  have cn := zK ((by rw [hg]; exact Nat.ne_of_gt (blk_lt (g := ao) (o := .cells #[.int .i64 a0_0, .slice aH ar.length aI] 24 (0, 0)) (zk ag)) : ad ≠ ao))
                  have co := zK ((by rw [hg]; exact Nat.ne_of_lt (blk_lt (g := an) (o := .cells #[.int .i64 am, .slice none 0 0] 24 (0, 0)) (zk ai)) : an ≠ ad))
                  have cp := zK ((by rw [hg]; exact Nat.ne_of_gt (blk_lt (g := an) (o := .cells #[.int .i64 am, .slice none 0 0] 24 (0, 0)) (zk ai)) : ad ≠ an))
                  have cq := zK ((by rw [hg]; exact Nat.ne_of_lt (blk_lt (g := ap) (o := .cells #[.int .i64 aD, .slice (some aA) aa.length bb] 24 (0, 0)) (zk ah)) : ap ≠ ad))
                  have cr := zK ((by rw [hg]; exact Nat.ne_of_gt (blk_lt (g := ap) (o := .cells #[.int .i64 aD, .slice (some aA) aa.length bb] 24 (0, 0)) (zk ah)) : ad ≠ ap))
                  clear aC ab ae al ag ai ah au aT av aU HB; have aC := aV; have ab := aW; have ae := aX; have al := a0; have ag := a6; have ai := a7; have ah := bg; have au := br; have aT := bx; have av := bC; have aU := bp; have HB := bX; have aj := cj; have eE := ck; have ba := cl; have ax := cm; have aM := cn; have ay := co; have aN := cp; have ak := cq; have aQ := cr; clear aV aW aX a0 a6 a7 bg br bx bC bp bX cj ck cl cm cn co cp cq cr hb hbox hg
                  refine hK.out _ _ ⟨(blk_cell ah.out 0).trans rfl, (blk_cell ah.out 1).trans rfl, dC, dD, ci, dE⟩ (fun hHeld => ?_)
                  clear hK K
                  refine norm_ (a' := ?_) ?_ ?_
                  rotate_left
                  ·show Act.put _ (some 10) _ = _
                   simp only [Act.put, zp, zq, zr, i64_w, i32_w]
                   rfl
                  refine one_ (i := 15) (N := none) #[tt, tt, tt, tt, tt, tt, tt, tt, tt, tt, tt, tt, tt, tt, tt, tt] rfl rfl (one_of HT_.out (by kernel_rfl)) (by decide) (fun K hK => ?_)
                  have hs93 : fs.cell? ⟨ad, 0, none⟩ = some (.int .i64 0) := (blk_cell aj.out 0).trans rfl
                  have hfs93 := blk_frozen aj.out 0; have hns93_0 := ax.out; have hns93_1 := ay.out; have hns93_2 := ak.out; have hms93_0 := aM.out; have hms93_1 := aN.out; have hms93_2 := aQ.out
                  have hs94 : fs.cell? ⟨ad, 1, none⟩ = some (.int .i64 0) := (blk_cell aj.out 1).trans rfl
                  have hfs94 := blk_frozen aj.out 1; have hns94_0 := ax.out; have hns94_1 := ay.out; have hns94_2 := ak.out; have hms94_0 := aM.out; have hms94_1 := aN.out; have hms94_2 := aQ.out
                  refine skip_ (w1 := ?_) (by rfl) rfl ?_ ?_
                  rotate_left
                  ·go_simp
                   rfl
                  refine hK.out _ _ ⟨((cell_far (p := ⟨ad, _, none⟩) ak.out _).trans (((cell_far (p := ⟨ad, _, none⟩) ak.out _).trans (hHeld.1)))), ((cell_far (p := ⟨ad, _, none⟩) ak.out _).trans (((cell_far (p := ⟨ad, _, none⟩) ak.out _).trans (hHeld.2.1)))), ((cell_far (p := ⟨ad, _, none⟩) (by first | exact Kd.own_blk (Kd.S_away ab.out (fun _ hk => hk.2)) | (rw [add_block]; exact Kd.own_blk (Kd.S_away ab.out (fun _ hk => hk.2))) | (show (Addr.add _ _).block ≠ _; rw [add_block]; exact Kd.own_blk (Kd.S_away ab.out (fun _ hk => hk.2))) | (dsimp only; exact Kd.own_blk (Kd.S_away ab.out (fun _ hk => hk.2)))) _).trans (((cell_far (p := ⟨ad, _, none⟩) (by first | exact Kd.own_blk (Kd.S_away ab.out (fun _ hk => hk.2)) | (rw [add_block]; exact Kd.own_blk (Kd.S_away ab.out (fun _ hk => hk.2))) | (show (Addr.add _ _).block ≠ _; rw [add_block]; exact Kd.own_blk (Kd.S_away ab.out (fun _ hk => hk.2))) | (dsimp only; exact Kd.own_blk (Kd.S_away ab.out (fun _ hk => hk.2)))) _).trans (hHeld.2.2.1)))), ((cell_far (p := ⟨ad, _, none⟩) (by first | exact Kd.own_blk (Kd.S_away ab.out (fun _ hk => hk.2)) | (rw [add_block]; exact Kd.own_blk (Kd.S_away ab.out (fun _ hk => hk.2))) | (show (Addr.add _ _).block ≠ _; rw [add_block]; exact Kd.own_blk (Kd.S_away ab.out (fun _ hk => hk.2))) | (dsimp only; exact Kd.own_blk (Kd.S_away ab.out (fun _ hk => hk.2)))) _).trans (((cell_far (p := ⟨ad, _, none⟩) (by first | exact Kd.own_blk (Kd.S_away ab.out (fun _ hk => hk.2)) | (rw [add_block]; exact Kd.own_blk (Kd.S_away ab.out (fun _ hk => hk.2))) | (show (Addr.add _ _).block ≠ _; rw [add_block]; exact Kd.own_blk (Kd.S_away ab.out (fun _ hk => hk.2))) | (dsimp only; exact Kd.own_blk (Kd.S_away ab.out (fun _ hk => hk.2)))) _).trans (hHeld.2.2.2.1)))), ((cell_far (p := ⟨ad, _, none⟩) (by first | exact Kd.own_blk (Kd.R_away ae.out (fun _ hk => hk.2)) | (rw [add_block]; exact Kd.own_blk (Kd.R_away ae.out (fun _ hk => hk.2))) | (show (Addr.add _ _).block ≠ _; rw [add_block]; exact Kd.own_blk (Kd.R_away ae.out (fun _ hk => hk.2))) | (dsimp only; exact Kd.own_blk (Kd.R_away ae.out (fun _ hk => hk.2)))) _).trans (((cell_far (p := ⟨ad, _, none⟩) (by first | exact Kd.own_blk (Kd.R_away ae.out (fun _ hk => hk.2)) | (rw [add_block]; exact Kd.own_blk (Kd.R_away ae.out (fun _ hk => hk.2))) | (show (Addr.add _ _).block ≠ _; rw [add_block]; exact Kd.own_blk (Kd.R_away ae.out (fun _ hk => hk.2))) | (dsimp only; exact Kd.own_blk (Kd.R_away ae.out (fun _ hk => hk.2)))) _).trans (hHeld.2.2.2.2.1)))), ((cell_far (p := ⟨ad, _, none⟩) (by first | exact Kd.own_blk (Kd.R_away ae.out (fun _ hk => hk.2)) | (rw [add_block]; exact Kd.own_blk (Kd.R_away ae.out (fun _ hk => hk.2))) | (show (Addr.add _ _).block ≠ _; rw [add_block]; exact Kd.own_blk (Kd.R_away ae.out (fun _ hk => hk.2))) | (dsimp only; exact Kd.own_blk (Kd.R_away ae.out (fun _ hk => hk.2)))) _).trans (((cell_far (p := ⟨ad, _, none⟩) (by first | exact Kd.own_blk (Kd.R_away ae.out (fun _ hk => hk.2)) | (rw [add_block]; exact Kd.own_blk (Kd.R_away ae.out (fun _ hk => hk.2))) | (show (Addr.add _ _).block ≠ _; rw [add_block]; exact Kd.own_blk (Kd.R_away ae.out (fun _ hk => hk.2))) | (dsimp only; exact Kd.own_blk (Kd.R_away ae.out (fun _ hk => hk.2)))) _).trans (hHeld.2.2.2.2.2))))⟩ (fun hHeld => ?_)
                  clear hK K
                  refine done_ (done_of HT_.out (by kernel_rfl)) ?_
                  have hnb95 := aM.out; have hnc95 := ax.out; have hnb96 := aN.out; have hnc96 := ay.out; have hnb97 := aQ.out; have hnc97 := ak.out
                  have hcz98_0 : fs.cell? ⟨ad, 0, none⟩ = some (.int .i64 0) := (blk_cell aj.out 0).trans rfl
                  have hcz98_1 : fs.cell? ⟨ad, 1, none⟩ = some (.int .i64 0) := (blk_cell aj.out 1).trans rfl
                  have hfz98_0 := blk_frozen aj.out 0; have hfz98_1 := blk_frozen aj.out 1; have hnb99 := bv.out; have hnc99 := bd.out; have hnb100 := bw.out; have hnc100 := be.out
                  have f8 : fs.cell? ⟨ap, 0, none⟩ = some (.int .i64 aD) := (blk_cell ah.out 0).trans rfl
                  have f9 : fs.cell? ⟨ap, 1, none⟩ = some (.slice (some aA) aa.length bb) := (blk_cell ah.out 1).trans rfl
                  have ga := blk_frozen ah.out 0; have gb := blk_frozen ah.out 1
                  try go_wp2_with (first | ((with_reducible refine gate_callee (f := 62) rfl ?_); refine goesL_ (some 52) rfl rfl Try.func62 (by kernel_rfl) rfl #[.agg #[.int .i64 aD, .slice (some aA) aa.length bb], .int .i64 ((rd_T30 (rd_L2 aa ac) (af)).f1), .int .i64 ac] rfl (by (try simp only [List.map_toArray, List.map_cons, List.map_nil]); first | done | (simp only [bQ]; rfl) | rfl | (simp only [List.length_drop, List.length_take]; rfl)) ?_; (with_reducible refine (impl_laneFor.calls k2 aD _ _ aa ((rd_T30 (rd_L2 aa ac) (af)).f1) ac aq _ ?side1 ?side2 A61.out).mono ?_); (case side1 => refine (Kd.S_reads' (e := 28) (base := w.heap.size) (ok := fun k_ => (True ∧ k_ ≠ ad)) (n := aa.length) (c := bb) ?_).2.2; exact (by (with_reducible repeat (first | apply Kd.S_alloc | apply Kd.S_drewN | apply Kd.S_drew)); exact (Kd.S_mono (Kd.S_far (p := ⟨ad, 1, none⟩) (Kd.S_far (p := ⟨ad, 0, none⟩) (Kd.S_mono ab.out (fun k_ hk => (⟨hk, hk.2⟩ : _ ∧ k_ ≠ ad))) (fun _ hk => hk.2) (.int .i64 ((rd_T30 (rd_L2 aa ac) (af)).f0))) (fun _ hk => hk.2) (.int .i64 ((rd_T30 (rd_L2 aa ac) (af)).f1))) (fun _ h_ => h_.1)))); (case side2 => exact (Kd.S_reads' ab.out).2.1); rintro e dJ ⟨rfl, hb⟩; refine ⟨_, rfl, ?_⟩; have aV := zK (Kd.R_below (by (with_reducible repeat (first | apply Kd.R_alloc | apply Kd.R_drewN | apply Kd.R_drew)); exact (Kd.R_mono (Kd.R_far (p := ⟨ad, 1, none⟩) (Kd.R_far (p := ⟨ad, 0, none⟩) (Kd.R_types aC.out aj.out (by decide)) (fun _ hk => hk.2) (.int .i64 ((rd_T30 (rd_L2 aa ac) (af)).f0))) (fun _ hk => hk.2) (.int .i64 ((rd_T30 (rd_L2 aa ac) (af)).f1))) (fun _ h_ => h_.1))) hb); have aW := zK (Kd.S_below (by (with_reducible repeat (first | apply Kd.S_alloc | apply Kd.S_drewN | apply Kd.S_drew)); exact (Kd.S_mono (Kd.S_far (p := ⟨ad, 1, none⟩) (Kd.S_far (p := ⟨ad, 0, none⟩) (Kd.S_mono ab.out (fun k_ hk => (⟨hk, hk.2⟩ : _ ∧ k_ ≠ ad))) (fun _ hk => hk.2) (.int .i64 ((rd_T30 (rd_L2 aa ac) (af)).f0))) (fun _ hk => hk.2) (.int .i64 ((rd_T30 (rd_L2 aa ac) (af)).f1))) (fun _ h_ => h_.1))) hb); have aX := zK (Kd.R_below (by (with_reducible repeat (first | apply Kd.R_alloc | apply Kd.R_drewN | apply Kd.R_drew)); exact (Kd.R_mono (Kd.R_far (p := ⟨ad, 1, none⟩) (Kd.R_far (p := ⟨ad, 0, none⟩) (Kd.R_mono ae.out (fun k_ hk => (⟨hk, hk.2⟩ : _ ∧ k_ ≠ ad))) (fun _ hk => hk.2) (.int .i64 ((rd_T30 (rd_L2 aa ac) (af)).f0))) (fun _ hk => hk.2) (.int .i64 ((rd_T30 (rd_L2 aa ac) (af)).f1))) (fun _ h_ => h_.1))) hb); have a0 := zK (Kd.R_below (by (with_reducible repeat (first | apply Kd.R_alloc | apply Kd.R_drewN | apply Kd.R_drew)); exact (Kd.R_mono (Kd.R_far (p := ⟨ad, 1, none⟩) (Kd.R_far (p := ⟨ad, 0, none⟩) (Kd.R_mono al.out (fun k_ hk => (⟨hk, hk.2⟩ : _ ∧ k_ ≠ ad))) (fun _ hk => hk.2) (.int .i64 ((rd_T30 (rd_L2 aa ac) (af)).f0))) (fun _ hk => hk.2) (.int .i64 ((rd_T30 (rd_L2 aa ac) (af)).f1))) (fun _ h_ => h_.1))) hb); have a6 := zK (blk_below (g := ao) (o := .cells #[.int .i64 a0_0, .slice aH ar.length aI] 24 (0, 0)) (by (with_reducible repeat (first | refine zN ?_ _ | refine zD ?_ | refine zA ?_ _)); refine blk_far ?_ ax.out _; (with_reducible repeat (first | refine zN ?_ _ | refine zD ?_ | refine zA ?_ _)); refine blk_far ?_ ax.out _; (with_reducible repeat (first | refine zN ?_ _ | refine zD ?_ | refine zA ?_ _)); exact ag.out) hb); have a7 := zK (blk_below (g := an) (o := .cells #[.int .i64 am, .slice none 0 0] 24 (0, 0)) (by (with_reducible repeat (first | refine zN ?_ _ | refine zD ?_ | refine zA ?_ _)); refine blk_far ?_ ay.out _; (with_reducible repeat (first | refine zN ?_ _ | refine zD ?_ | refine zA ?_ _)); refine blk_far ?_ ay.out _; (with_reducible repeat (first | refine zN ?_ _ | refine zD ?_ | refine zA ?_ _)); exact ai.out) hb); have bg := zK (blk_below (g := ap) (o := .cells #[.int .i64 aD, .slice (some aA) aa.length bb] 24 (0, 0)) (by (with_reducible repeat (first | refine zN ?_ _ | refine zD ?_ | refine zA ?_ _)); refine blk_far ?_ ak.out _; (with_reducible repeat (first | refine zN ?_ _ | refine zD ?_ | refine zA ?_ _)); refine blk_far ?_ ak.out _; (with_reducible repeat (first | refine zN ?_ _ | refine zD ?_ | refine zA ?_ _)); exact ah.out) hb); have br := zK (Kd.C_below ((Kd.R_reads' (by (with_reducible repeat (first | apply Kd.R_alloc | apply Kd.R_drewN | apply Kd.R_drew)); exact (Kd.R_mono (Kd.R_far (p := ⟨ad, 1, none⟩) (Kd.R_far (p := ⟨ad, 0, none⟩) (Kd.R_mono ae.out (fun k_ hk => (⟨hk, hk.2⟩ : _ ∧ k_ ≠ ad))) (fun _ hk => hk.2) (.int .i64 ((rd_T30 (rd_L2 aa ac) (af)).f0))) (fun _ hk => hk.2) (.int .i64 ((rd_T30 (rd_L2 aa ac) (af)).f1))) (fun _ h_ => h_.1)))).2.2) hb); have bx := zK (Kd.C_below ((Kd.R_reads' (by (with_reducible repeat (first | apply Kd.R_alloc | apply Kd.R_drewN | apply Kd.R_drew)); exact (Kd.R_mono (Kd.R_far (p := ⟨ad, 1, none⟩) (Kd.R_far (p := ⟨ad, 0, none⟩) (Kd.R_mono al.out (fun k_ hk => (⟨hk, hk.2⟩ : _ ∧ k_ ≠ ad))) (fun _ hk => hk.2) (.int .i64 ((rd_T30 (rd_L2 aa ac) (af)).f0))) (fun _ hk => hk.2) (.int .i64 ((rd_T30 (rd_L2 aa ac) (af)).f1))) (fun _ h_ => h_.1)))).2.2) hb); have bC := zK (blk_below (g := ad) (o := .cells #[.int .i64 ((rd_T30 (rd_L2 aa ac) (af)).f0), .int .i64 ((rd_T30 (rd_L2 aa ac) (af)).f1)] 30 (0, 0)) (by (with_reducible repeat (first | refine zN ?_ _ | refine zD ?_ | refine zA ?_ _)); refine blk_put (cs := #[.int .i64 ((rd_T30 (rd_L2 aa ac) (af)).f0), .int .i64 0]) ?_ 1 _ rfl; (with_reducible repeat (first | refine zN ?_ _ | refine zD ?_ | refine zA ?_ _)); refine blk_put (cs := #[.int .i64 0, .int .i64 0]) ?_ 0 _ rfl; (with_reducible repeat (first | refine zN ?_ _ | refine zD ?_ | refine zA ?_ _)); exact aj.out) hb); have bp := zK (below_step (zb HB) hb); clear aC; clear ab; clear ae; clear al; clear ag; clear ai; clear ah; clear au; clear av; clear aj; clear HB; have aC := aV; have ab := aW; have ae := aX; have al := a0; have ag := a6; have ai := a7; have ah := bg; have au := br; have av := bx; have aj := bC; have HB := bp; clear aV aW aX a0 a6 a7 bg br bx bC bp; (try clear hb); (try clear hk); have gc : dJ.cell? ⟨ap, 0, none⟩ = some (.int .i64 aD) := (blk_cell ah.out 0).trans rfl; have gf : dJ.cell? ⟨ap, 1, none⟩ = some (.slice (some aA) aa.length bb) := (blk_cell ah.out 1).trans rfl; have gg := blk_frozen ah.out 0; have gh := blk_frozen ah.out 1; have en : 0 ≤ (ac : Int) := zd; have eo : ac < (aa.length : Int) := zd; obtain ⟨gi, A863_0, bN, e863, b7, c0, da⟩ := at_L2 (Kd.S_reads' ab.out).2.2 ac en eo; obtain rfl : aA = gi := (by injection e863); obtain ⟨ce863, e9, fa, dK⟩ := Kd.S_get ab.out [] ac en (by first | exact eo | exact zd | (have e_ := (Kd.S_reads' ab.out).1; omega)); obtain ⟨ve863_0, rfl, b8⟩ := fa; have bI := dK 0 _ rfl; rw [Nat.add_zero, show ((Kd.slice 30 k30)).sz = 1 from rfl, Nat.mul_one] at bI; replace bI := Option.some.inj (bI.symm.trans b7); rw [bI] at b8; have bn := zK (show Kd.R k30 30 _ _ _ _ (rd_L2 aa ac) from b8); clear bI b8; have ep := zK b7; clear dK e9; have bP := zK da; have db := zK c0; clear da c0; replace en := eq_true en; replace eo := eq_true eo; have fb : 0 ≤ ((af) : Int) := zd; have fc : (af) < ((rd_L2 aa ac).length : Int) := zd; obtain ⟨dc, e864, dd, de⟩ := at_T30 (by repeat (first | (with_reducible exact bP.out) | (with_reducible refine Kd.C_alloc ?_ _) | (with_reducible refine Kd.C_drewN ?_ _) | (with_reducible refine Kd.C_drew ?_) | exact bP.out)) (af) fb fc; cases e864; replace fb := eq_true fb; replace fc := eq_true fc; have er : ((af) : Int) ≤ (((rd_L2 aa ac).length : Int) : Int) := zd; obtain ⟨i0104, dL, _, fd, _⟩ := info_parts info30; have cy : (rd_L2 aa ac).length ≤ bN := db.out; have eK : Kd.C k30 _ (some dc) (rd_L2 aa ac).length (rd_L2 aa ac) := (by repeat (first | (with_reducible exact bP.out) | (with_reducible refine Kd.C_alloc ?_ _) | (with_reducible refine Kd.C_drewN ?_ _) | (with_reducible refine Kd.C_drew ?_) | exact bP.out)); have es := cut_to (P := Try.prog) 28 30 .i64 Try.underlying28 dL (some dc) (rd_L2 aa ac).length bN (af) (zd) er cy; have dM := Kd.C_take (m := ((af) : Int).toNat) eK (by omega); have dN : b6.length = ((af) : Int).toNat := (by rw [Ny865.out, List.length_take]; omega); rw [← Ny865.out] at dM; rw [← dN] at es; have HR868 := zK dM; have HC868 := zK (show b6.length ≤ bN from by omega); clear dM eK cy dL fd; have eL := zK dN; clear dN; replace er := eq_true er; have p83 : 0 ≤ (ac : Int) := zd; have q83 : (ac : Int) < ((aa.length : Int) : Int) := zd; obtain ⟨aY, co83, gj, gl, gl83, cl83, gm⟩ := Kd.S_form ab.out (by omega); (first | cases gj | (injection gj with ea_ en_ ec_; (first | subst ea_ | (injection ea_ with ea_; subst ea_)); subst ec_; clear en_)); have gn := zK gl; have GG83 := zK gm; clear gl gl83 gm; (first | simp only [add_plain] at aE | skip); (first | simp only [add_plain] at aG | skip); (first | simp only [add_plain] at b7 | skip); obtain ⟨_, ce83, gp, gq, eM, eN, _, _⟩ := Kd.S_elem ab.out [] (ac : Int) p83 q83; obtain ⟨ve83_0, rfl, ge83_0⟩ := gq; have fe := eM 0 _ rfl; have fg := eN 0; (try simp only [show ((Kd.slice 30 k30)).sz = 1 from rfl, Nat.mul_one, Nat.add_zero] at fe); (try simp only [show ((Kd.slice 30 k30)).sz = 1 from rfl, Nat.mul_one, Nat.add_zero] at fg); clear gp eM eN; (try clear gq); replace p83 := eq_true p83; replace q83 := eq_true q83; have n_ := zK (Kd.S_mono (ok' := (fun k_ => k_ ≠ ad)) ab.out (fun k_ hk => hk.2)); clear ab; have ab := n_; clear n_; have gr := zK (show Kd.S (Kd.slice 30 k30) 28 dJ w.heap.size (fun k_ => ((fun k_ => k_ ≠ ad)) k_ ∧ ¬ ((fun _ => False)) k_) (.slice (some ⟨aY, 0, none⟩) aa.length bb) aa from (by (with_reducible repeat (first | apply Kd.S_alloc | apply Kd.S_drewN | apply Kd.S_drew)); exact Kd.S_mono ab.out (fun k_ hk => ⟨hk, fun e_ => e_⟩))); obtain ⟨fh, ce105, fi, eO, cF, dO, et, eP⟩ := Kd.S_elem gr.out [] (ac : Int) (zd) (by have h_ : (ac : Int) < ((aa.length : Int) : Int) := zd; first | exact h_ | (have e_ := (Kd.S_reads' ab.out).1; omega) | simpa using h_); obtain ⟨ve105_0, rfl, eu⟩ := eO; have cz := cF 0 _ rfl; have dP := ep.out; (try simp only [add_plain] at dP); (try simp only [Nat.add_zero] at cz); (try rw [show ((Kd.slice 30 k30)).sz = 1 from rfl, Nat.mul_one] at cz); replace cz := Option.some.inj (cz.symm.trans dP); subst cz; clear dP; have ew := zK (show Kd.R k30 30 dJ w.heap.size fh (.slice (some dc) b6.length bN) b6 from by rw [eL.out, Ny865.out]; exact Kd.R_take eu (by have h_ := of_eq_true er; omega)); have dQ := Kd.S_seg eP (zd) (by have h_ : (ac : Int) < ((aa.length : Int) : Int) := zd; first | exact h_ | (have e_ := (Kd.S_reads' ab.out).1; omega) | simpa using h_) (seg := [.slice (some dc) b6.length bN]) (j := 0) (show 1 ≤ 1 from by decide) (x' := b6) (Kd.M_row (Kd.R_mono ew.out (fun _ h_ => Or.inl h_))) (fun _ hk => hk) (fun k_ hk_ => hk_.elim); have b9 := cF 0 _ rfl; (try simp only [show ((Kd.slice 30 k30)).sz = 1 from rfl, Nat.mul_one, Nat.add_zero] at b9); have ca := dO 0; (try simp only [show ((Kd.slice 30 k30)).sz = 1 from rfl, Nat.mul_one, Nat.add_zero] at ca); clear fi cF dO et eP; (try clear eO); (try simp only [show ((Kd.slice 30 k30)).sz = 1 from rfl, Nat.mul_one, Nat.add_zero] at dQ)) | (go_at_call 75; refine (pop_calls (b := ap) (deep := aD) (g := aY) (n := aa.length) (cap := bb) (lane := ac) (H := (af)) (k := ((rd_L2 aa ac).length)) (c := bN) (m := b6.length) _ (zk ah) (zd) (zd) (by first | exact b9 | simpa using b9) (by first | exact ca | simpa using ca) (by first | rfl | assumption | exact Eq.symm (by assumption)) (zd) (zd) db.out (by first | exact dd | simpa using dd) (by first | exact de | simpa using de) eL.out).mono ?_; rintro e fj ⟨rfl, hg0_, cE⟩; have hg : dJ.grownBy fj (some aY) := hg0_; have hp_ : Kd.S (Kd.slice 30 k30) 28 fj w.heap.size (fun k_ => k_ ≠ ad) (.slice (some ⟨aY, 0, none⟩) aa.length bb) a5 := (by rw [Ny869.out]; exact Opens.pop_S dQ.1 cE); have hw := cE; clear cE hg0_; clear dQ; have aV := zK (Kd.R_over' (v := (.slice (some ⟨aY, 0, none⟩) aa.length bb)) (zR aC) (Kd.S_typed ab.out) (by decide) hg); have aW := zK (hp_); have aX := zK (blk_grown (g := ao) (o := .cells #[.int .i64 a0_0, .slice aH ar.length aI] 24 (0, 0)) (zk ag) hg (Kd.S_ne ab.out ag.out (by decide))); have a0 := zK (blk_grown (g := an) (o := .cells #[.int .i64 am, .slice none 0 0] 24 (0, 0)) (zk ai) hg (Kd.S_ne ab.out ai.out (by decide))); have a6 := zK (blk_grown (g := ap) (o := .cells #[.int .i64 aD, .slice (some ⟨aY, 0, none⟩) aa.length bb] 24 (0, 0)) (zk ah) hg (Kd.S_ne ab.out ah.out (by decide))); have a7 := zK (Kd.R_after (v := (.slice (some ⟨aY, 0, none⟩) aa.length bb)) (v1 := (.slice (some ⟨aY, 0, none⟩) aa.length bb)) (ok := (fun k_ => k_ ≠ ad)) (by (with_reducible repeat (first | apply Kd.R_alloc | apply Kd.R_drewN | apply Kd.R_drew)); exact Kd.R_mono ae.out (fun _ hk => ⟨hk.2, hk.1.2⟩)) hg (.inl rfl)); have bg := zK (Kd.R_after (v := (.slice (some ⟨aY, 0, none⟩) aa.length bb)) (v1 := (.slice (some ⟨aY, 0, none⟩) aa.length bb)) (ok := (fun k_ => k_ ≠ ad)) (by (with_reducible repeat (first | apply Kd.R_alloc | apply Kd.R_drewN | apply Kd.R_drew)); exact Kd.R_mono al.out (fun _ hk => ⟨hk.2, hk.1.2⟩)) hg (.inl rfl)); have br := zK (blk_grown (g := ad) (o := .cells #[.int .i64 ((rd_T30 (rd_L2 aa ac) (af)).f0), .int .i64 ((rd_T30 (rd_L2 aa ac) (af)).f1)] 30 (0, 0)) (zk aj) hg (Kd.S_ne ab.out aj.out (by decide))); have bx := zK (Kd.R_after (v := (.slice (some ⟨aY, 0, none⟩) aa.length bb)) (v1 := (.slice (some ⟨aY, 0, none⟩) aa.length bb)) (ok := (fun k_ => k_ ≠ ad)) (by (with_reducible repeat (first | apply Kd.R_alloc | apply Kd.R_drewN | apply Kd.R_drew)); exact Kd.R_mono bn.out (fun _ hk => ⟨hk.1.2, hk.2⟩)) hg (.inl rfl)); have bC := zK ((Opens.below_of_grown (zb HB) hg gn.out)); clear aC; clear ab; clear ag; clear ai; clear ah; clear ae; clear al; clear aj; clear bn; clear HB; have aC := aV; have ab := aW; have ag := aX; have ai := a0; have ah := a6; have ae := a7; have al := bg; have aj := br; have bn := bx; have HB := bC; clear aV aW aX a0 a6 a7 bg br bx bC; clear hg hw hp_))
                  have aV := zK (Kd.R_drew aC.out)
                  have aW := zK (Kd.S_drew ab.out)
                  have aX := zK (Kd.R_drew ae.out)
                  have a0 := zK (Kd.R_drew al.out)
                  have a6 := zK (Kd.R_drew bn.out)
                  have a7 := zK (zD ag.out)
                  have bg := zK (zD ai.out)
                  have br := zK (zD ah.out)
                  have bx := zK (zD aj.out)
                  have bC := zK (zE HB.out)
                  clear aC ab ae al bn ag ai ah aj HB; have aC := aV; have ab := aW; have ae := aX; have al := a0; have bn := a6; have ag := a7; have ai := bg; have ah := br; have aj := bx; have HB := bC; clear aV aW aX a0 a6 a7 bg br bx bC
                  have ex : 0 ≤ (aq : Int) := zd
                  have ey : aq < (a5.length : Int) := (by have h_ : (aq : Int) < ((aa.length : Int) : Int) := zd; first | (have e_ := (Kd.S_reads' ab.out).1; omega) | simpa only [Ny869.out, List.length_set] using h_)
                  have ql870 : ((aq : Int) < ((aa.length : Int) : Int)) = True := eq_true (zd)
                  obtain ⟨gs, cb, cc, e870, bq, df, dg⟩ := at_L2 (Kd.S_reads' ab.out).2.2 aq ex ey
                  obtain rfl : (⟨aY, 0, none⟩ : Addr) = gs := (by injection e870)
                  obtain ⟨ce870, fk, fl, dR⟩ := Kd.S_get ab.out [] aq ex (by first | exact ey | exact zd | (have e_ := (Kd.S_reads' ab.out).1; omega))
                  obtain ⟨ve870_0, rfl, cd⟩ := fl
                  have bJ := dR 0 _ rfl
                  rw [Nat.add_zero, show ((Kd.slice 30 k30)).sz = 1 from rfl, Nat.mul_one] at bJ
                  replace bJ := Option.some.inj (bJ.symm.trans bq)
                  rw [bJ] at cd
                  have aZ := zK (show Kd.R k30 30 _ _ _ _ (rd_L2 a5 aq) from cd)
                  clear bJ cd; have dh := zK bq; clear dR fk
                  (first | simp only [add_plain] at bq | simp only [add_at] at bq | simp only [Addr.add, Nat.zero_add] at bq | skip)
                  have ez := zK dg; have HC870_0 := zK df; clear dg df; replace ex := eq_true ex; replace ey := eq_true ey
                  obtain ⟨dS, ce108, fm, gt, dT, _, _, eQ⟩ := Kd.S_elem ab.out [] (aq : Int) (zd) (by have h_ : (aq : Int) < ((aa.length : Int) : Int) := zd; first | exact h_ | (have e_ := (Kd.S_reads' ab.out).1; omega) | simpa using h_)
                  obtain ⟨ve108_0, rfl, di⟩ := gt
                  have cA := dT 0 _ rfl; have dU := dh.out; (try simp only [add_plain] at dU); (try simp only [Nat.add_zero] at cA); (try rw [show ((Kd.slice 30 k30)).sz = 1 from rfl, Nat.mul_one] at cA)
                  replace cA := Option.some.inj (cA.symm.trans dU)
                  subst cA; clear dU dT fm
                  have dj := zK (show Kd.R k30 30 _ w.heap.size dS (.slice cb (rd_L2 a5 aq).length cc) (rd_L2 a5 aq) from di)
                  have bY := zK eQ
                  have dV := zK (Kd.S_reads' ab.out).1
                  clear eQ di
                  refine start_ (n := 13) (S := fun w' => w'.cell? ⟨ap, 0, none⟩ = some (.int .i64 aD) ∧ w'.cell? ⟨ap, 1, none⟩ = some (.slice (some ⟨aY, 0, none⟩) aa.length bb) ∧ w'.cell? ⟨ad, 0, none⟩ = some (.int .i64 ((rd_T30 (rd_L2 aa ac) (af)).f0)) ∧ w'.cell? ⟨ad, 1, none⟩ = some (.int .i64 ((rd_T30 (rd_L2 aa ac) (af)).f1)) ∧ w'.cell? ⟨aY, (aq).toNat, none⟩ = some (.slice cb (rd_L2 a5 aq).length cc)) (ds := [12]) #[ff, ff, ff, ff, ff, ff, ff, ff, ff, ff, ff, ff, ff] (by kernel_rfl) rfl rfl ⟨(blk_cell ah.out 0).trans rfl, (blk_cell ah.out 1).trans rfl, (blk_cell aj.out 0).trans rfl, (blk_cell aj.out 1).trans rfl, bq⟩ (fun hHeld => ?_); refine with_tabW impl_TakeBag.tab14 impl_TakeBag.bits14 (fun HT_ HW_ => ?_)
                  generalize fj.drew = w107 at aC ab ae al bn ag ai ah aj HB bY aZ ez dh dj bq hHeld ⊢
                  refine zu 0 (some 59) #[tt, ff, ff, ff, ff, ff, ff, ff, ff, ff, ff, ff, ff] (any_of HT_.out (by kernel_rfl)) ?_
                  refine zu 2 (some 61) #[tt, ff, tt, ff, ff, ff, ff, ff, ff, ff, ff, ff, ff] (any_of HT_.out (by kernel_rfl)) ?_
                  refine zu 3 (some 62) #[tt, ff, tt, tt, ff, ff, ff, ff, ff, ff, ff, ff, ff] (any_of HT_.out (by kernel_rfl)) ?_
                  refine zu 5 (some 64) #[tt, ff, tt, tt, ff, tt, ff, ff, ff, ff, ff, ff, ff] (any_of HT_.out (by kernel_rfl)) ?_
                  refine zt 1 (some 60) #[tt, tt, tt, tt, ff, tt, ff, ff, ff, ff, ff, ff, ff] (take_ofW HT_.out HW_.out (by kernel_rfl)) hHeld ?_
                  refine zt 4 (some 63) #[tt, tt, tt, tt, tt, tt, ff, ff, ff, ff, ff, ff, ff] (take_ofW HT_.out HW_.out (by kernel_rfl)) hHeld ?_
                  refine zu 6 (some 65) #[tt, tt, tt, tt, tt, tt, tt, ff, ff, ff, ff, ff, ff] (any_of HT_.out (by kernel_rfl)) ?_
                  refine zt 7 (some 66) #[tt, tt, tt, tt, tt, tt, tt, tt, ff, ff, ff, ff, ff] (take_ofW HT_.out HW_.out (by kernel_rfl)) hHeld ?_
                  refine zt 8 (some 67) #[tt, tt, tt, tt, tt, tt, tt, tt, tt, ff, ff, ff, ff] (take_ofW HT_.out HW_.out (by kernel_rfl)) hHeld ?_
                  refine one_ (i := 9) (N := some 68) #[tt, tt, tt, tt, tt, tt, tt, tt, tt, tt, ff, ff, ff] rfl rfl (one_of HT_.out (by kernel_rfl)) (by decide) (fun K hK => ?_)
                  refine value_ (w1 := ?_) (v := ?_) (by rfl) rfl ?_ ?_
                  rotate_left 2
                  ·go_simp
                   constructor
                   ·rfl
                   ·rfl
                  refine hK.out _ _ ⟨(blk_cell (zA ah.out _) 0).trans rfl, (blk_cell (zA ah.out _) 1).trans rfl, (blk_cell (zA aj.out _) 0).trans rfl, (blk_cell (zA aj.out _) 1).trans rfl, (World.cell?_alloc_lt _ _ _ (World.block_lt_of_cell? _ _ (hHeld.2.2.2.2))).trans (hHeld.2.2.2.2)⟩ (fun hHeld => ?_)
                  clear hK K
                  refine norm_ (a' := ?_) ?_ ?_
                  rotate_left
                  ·show Act.put _ (some 68) _ = _
                   simp only [Act.put, zp, zq, zr, i64_w, i32_w]
                   rfl
                  refine one_ (i := 10) (N := some 69) #[tt, tt, tt, tt, tt, tt, tt, tt, tt, tt, tt, ff, ff] rfl rfl (one_of HT_.out (by kernel_rfl)) (by decide) (fun K hK => ?_)
                  refine Kd.R_append_step k30 (w0 := w) w.heap.size (by rfl) (.tmp 66) (.tmp 68) 28 30 (.agg #[(.int .i64 0), (.int .i64 0)]) 16 rfl Try.underlying28 info30 rfl (by decide) (by omega) (.slice cb (rd_L2 a5 aq).length cc) (rd_L2 a5 aq) (⟨(rd_T30 (rd_L2 aa ac) (af)).f0, (rd_T30 (rd_L2 aa ac) (af)).f1⟩ : S30) [.int .i64 ((rd_T30 (rd_L2 aa ac) (af)).f0), .int .i64 ((rd_T30 (rd_L2 aa ac) (af)).f1)] (fun k_ => dS k_ ∨ ((fun k_ => k_ ≠ ad)) k_ ∧ w107.heap.size ≤ k_) (fun _ => False) rfl rfl ?aP (fun _ hk => hk.elim) ?aF ?aO ?aB ?aS ?aL ?_
                  (case aP => exact k30_mkM _ _ _ (⟨(rd_T30 (rd_L2 aa ac) (af)).f0, (rd_T30 (rd_L2 aa ac) (af)).f1⟩ : S30))
                  (case aB => exact (zb HB))
                  (case aF => exact (fun k_ hk => .inr ⟨Kd.freshB (g := ad) (o := .cells #[.int .i64 ((rd_T30 (rd_L2 aa ac) (af)).f0), .int .i64 ((rd_T30 (rd_L2 aa ac) (af)).f1)] 30 (0, 0)) (zk aj) k_ hk, hk⟩))
                  (case aO => exact (by (with_reducible repeat (first | apply Kd.R_alloc | apply Kd.R_drewN | apply Kd.R_drew)); exact Kd.R_mono dj.out (fun _ hk => .inl hk)))
                  (case aS => exact (below_size (zb HB)))
                  (case aL => have := f4.out; omega)
                  intro v872 cB ho hb hg hat
                  (first | have ci := cell_grown hg (hHeld.2.2.2.2) (by first | (rw [add_block]; exact (fun e_ => ((aZ.out.1 _ e_.symm).2) rfl)) | (show some (Addr.add _ _).block ≠ _; rw [add_block]; exact (fun e_ => ((aZ.out.1 _ e_.symm).2) rfl)) | exact (fun e_ => ((aZ.out.1 _ e_.symm).2) rfl)) | have ci := cell_grown hg (cell_unalloc (hHeld.2.2.2.2) (by first | (rw [add_block]; exact Kd.S_lt ab.out _ rfl) | (show (Addr.add _ _).block < _; rw [add_block]; exact Kd.S_lt ab.out _ rfl) | exact Kd.S_lt ab.out _ rfl)) (by first | (rw [add_block]; exact (fun e_ => ((aZ.out.1 _ e_.symm).2) rfl)) | (show some (Addr.add _ _).block ≠ _; rw [add_block]; exact (fun e_ => ((aZ.out.1 _ e_.symm).2) rfl)) | exact (fun e_ => ((aZ.out.1 _ e_.symm).2) rfl)))
                  rw [← Ny871.out] at ho
                  have aV := zK (Kd.R_over' (v := (.slice cb (rd_L2 a5 aq).length cc)) (zR aC) (Kd.R_typed aZ.out) (by decide) hg)
                  have aW := zK (blk_grown (g := ao) (o := .cells #[.int .i64 a0_0, .slice aH ar.length aI] 24 (0, 0)) (zk ag) hg (Kd.R_ne aZ.out ag.out (by decide)))
                  have aX := zK (blk_grown (g := an) (o := .cells #[.int .i64 am, .slice none 0 0] 24 (0, 0)) (zk ai) hg (Kd.R_ne aZ.out ai.out (by decide)))
                  have a0 := zK (blk_grown (g := ap) (o := .cells #[.int .i64 aD, .slice (some ⟨aY, 0, none⟩) aa.length bb] 24 (0, 0)) (zk ah) hg (Kd.R_ne aZ.out ah.out (by decide)))
                  have a6 := zK (blk_grown (g := ad) (o := .cells #[.int .i64 ((rd_T30 (rd_L2 aa ac) (af)).f0), .int .i64 ((rd_T30 (rd_L2 aa ac) (af)).f1)] 30 (0, 0)) (zk aj) hg (Kd.R_away aZ.out (fun _ hk => hk.1)))
                  have a7 := zK (hb)
                  have bg := zK (Kd.H_grown (Kd.H_widen (by repeat (first | exact bY.out | refine Kd.H_alloc ?_ _ | refine Kd.H_drewN ?_ _ | refine Kd.H_drew ?_))) hg (fun k_ e_ => .inl (dj.out.1 k_ e_)))
                  have br := zK (ho)
                  clear aC ag ai ah aj HB bY ab dj ae al bn aZ; have aC := aV; have ag := aW; have ai := aX; have ah := a0; have aj := a6; have HB := a7; have bY := bg; have eR := br; clear aV aW aX a0 a6 a7 bg br ho hb hg hat
                  have p88 : 0 ≤ (aq : Int) := zd
                  have q88 : (aq : Int) < ((aa.length : Int) : Int) := zd
                  replace p88 := eq_true p88; replace q88 := eq_true q88
                  obtain ⟨bA, bB, eS⟩ := Kd.R_slice eR.out
                  (first | subst eS | (injection eS with f1_ f2_ f3_; have f4_ := f1_.symm; have f5_ := f3_.symm; clear f1_ f2_ f3_; subst f4_; subst f5_))
                  obtain ⟨_, _, bK, _, _, dW, _⟩ := Kd.H_raw bY.out (zd) (by have h_ : (aq : Int) < ((aa.length : Int) : Int) := zd; first | exact h_ | (have e_ := (dV.out); omega) | simpa using h_)
                  obtain ⟨_, dX⟩ := Kd.H_at bY.out (zd) (by have h_ : (aq : Int) < ((aa.length : Int) : Int) := zd; first | exact h_ | (have e_ := (dV.out); omega) | simpa using h_)
                  have dk := dW 0 _ rfl; have dl := dX 0; (try simp only [Nat.add_zero] at dk dl); (try rw [show ((Kd.slice 30 k30)).sz = 1 from rfl, Nat.mul_one] at dk); (try rw [show ((Kd.slice 30 k30)).sz = 1 from rfl, Nat.mul_one] at dl)
                  have dY := Kd.S_seg0 bY.out (zd) (by have h_ : (aq : Int) < ((aa.length : Int) : Int) := zd; first | exact h_ | (have e_ := (dV.out); omega) | simpa using h_) (seg := [.slice bA bM.length bB]) (j := 0) (show 1 ≤ 1 from by decide) (x' := bM) (Kd.M_row eR.out) (fun _ hk => hk)
                  (try simp only [show ((Kd.slice 30 k30)).sz = 1 from rfl, Nat.mul_one, Nat.add_zero] at dY); clear dW dX
                  have HNB834_go83 := zK (show ao ≠ aY from by have h_ := Kd.R_ne bK ag.out (by decide); intro e_; exact h_ (by rw [e_]; rfl))
                  have HNB835_go83 := zK (show an ≠ aY from by have h_ := Kd.R_ne bK ai.out (by decide); intro e_; exact h_ (by rw [e_]; rfl))
                  have HNB846_go83 := zK (show ap ≠ aY from by have h_ := Kd.R_ne bK ah.out (by decide); intro e_; exact h_ (by rw [e_]; rfl))
                  have HNB850_go83 := zK (show ad ≠ aY from by have h_ := Kd.R_ne bK aj.out (by decide); intro e_; exact h_ (by rw [e_]; rfl))
                  have dZ := dY.1
                  rw [← Ny874.out] at dZ
                  have gu := zK dZ
                  obtain ⟨_, d0⟩ := Kd.R_typed bK aY rfl
                  have fn := zK d0; clear dY dZ d0
                  refine hK.out _ _ ⟨(blk_cell ah.out 0).trans rfl, (blk_cell ah.out 1).trans rfl, (blk_cell aj.out 0).trans rfl, (blk_cell aj.out 1).trans rfl, ci⟩ (fun hHeld => ?_)
                  clear hK K
                  refine norm_ (a' := ?_) ?_ ?_
                  rotate_left
                  ·show Act.put _ (some 69) _ = _
                   simp only [Act.put, zp, zq, zr, i64_w, i32_w]
                   rfl
                  refine zu 11 (some 70) #[tt, tt, tt, tt, tt, tt, tt, tt, tt, tt, tt, tt, ff] (any_of HT_.out (by kernel_rfl)) ?_
                  refine last_ (i := 12) (N := none) #[tt, tt, tt, tt, tt, tt, tt, tt, tt, tt, tt, tt, tt] rfl rfl (one_of HT_.out (by kernel_rfl)) (by decide) (fun K hK => ?_)
                  refine skip_ (w1 := ?_) (by rfl) rfl ?_ ?_
                  rotate_left
                  ·go_simp
                   rfl
                  refine hK.out _ _ ?_
                  clear hK K
                  refine done_ (done_of HT_.out (by kernel_rfl)) ?_
                  have aV : Aside0 (Kd.R k78 78 (cB.setCell ⟨aY, (aq : Int).toNat, none⟩ (.slice bA bM.length bB)) w.heap.size (fun _ => True) u9 bf) := ⟨by (with_reducible repeat (first | apply Kd.R_alloc | apply Kd.R_drewN | apply Kd.R_drew)); exact Kd.R_mono (Kd.R_far (p := ⟨aY, (aq : Int).toNat, none⟩) (Kd.R_types aC.out fn.out (by decide)) (fun _ hk => hk.2) (.slice bA bM.length bB)) (fun _ hk => trivial)⟩
                  have aW : Aside0 (Kd.S (Kd.slice 30 k30) 28 (cB.setCell ⟨aY, (aq : Int).toNat, none⟩ (.slice bA bM.length bB)) w.heap.size (fun k_ => k_ ≠ ad) (.slice (some ⟨aY, 0, none⟩) aa.length bb) em) := ⟨zT gu⟩
                  have aX : Aside0 ((cB.setCell ⟨aY, (aq : Int).toNat, none⟩ (.slice bA bM.length bB)).heap[ao]? = some (.cells #[.int .i64 a0_0, .slice aH ar.length aI] 24 (0, 0))) := ⟨by (with_reducible repeat (first | refine zN ?_ _ | refine zD ?_ | refine zA ?_ _)); refine blk_far ?_ HNB834_go83.out _; (with_reducible repeat (first | refine zN ?_ _ | refine zD ?_ | refine zA ?_ _)); exact ag.out⟩
                  have a0 : Aside0 ((cB.setCell ⟨aY, (aq : Int).toNat, none⟩ (.slice bA bM.length bB)).heap[an]? = some (.cells #[.int .i64 am, .slice none 0 0] 24 (0, 0))) := ⟨by (with_reducible repeat (first | refine zN ?_ _ | refine zD ?_ | refine zA ?_ _)); refine blk_far ?_ HNB835_go83.out _; (with_reducible repeat (first | refine zN ?_ _ | refine zD ?_ | refine zA ?_ _)); exact ai.out⟩
                  have a6 : Aside0 ((cB.setCell ⟨aY, (aq : Int).toNat, none⟩ (.slice bA bM.length bB)).heap[ap]? = some (.cells #[.int .i64 aD, .slice (some ⟨aY, 0, none⟩) aa.length bb] 24 (0, 0))) := ⟨by (with_reducible repeat (first | refine zN ?_ _ | refine zD ?_ | refine zA ?_ _)); refine blk_far ?_ HNB846_go83.out _; (with_reducible repeat (first | refine zN ?_ _ | refine zD ?_ | refine zA ?_ _)); exact ah.out⟩
                  have a7 : Aside0 ((cB.setCell ⟨aY, (aq : Int).toNat, none⟩ (.slice bA bM.length bB)).heap[ad]? = some (.cells #[.int .i64 ((rd_T30 (rd_L2 aa ac) (af)).f0), .int .i64 ((rd_T30 (rd_L2 aa ac) (af)).f1)] 30 (0, 0))) := ⟨by (with_reducible repeat (first | refine zN ?_ _ | refine zD ?_ | refine zA ?_ _)); refine blk_far ?_ HNB850_go83.out _; (with_reducible repeat (first | refine zN ?_ _ | refine zD ?_ | refine zA ?_ _)); exact aj.out⟩
                  have bg : Aside0 (Below w.heap.size w (cB.setCell ⟨aY, (aq : Int).toNat, none⟩ (.slice bA bM.length bB))) := ⟨zb HB⟩
                  (try clear aC); (try clear ab); (try clear ag); (try clear ai); (try clear ah); (try clear aj); (try clear HB)
                  generalize (cB.setCell ⟨aY, (aq : Int).toNat, none⟩ (.slice bA bM.length bB)) = gv at aV aW aX a0 a6 a7 bg ⊢
                  have aC := aV; have ab := aW; have ag := aX; have ai := a0; have ah := a6; have aj := a7; have HB := bg; clear aV aW aX a0 a6 a7 bg
                  have gw : gv.cell? ⟨ad, 0, none⟩ = some (.int .i64 ((rd_T30 (rd_L2 aa ac) (af)).f0)) := (blk_cell aj.out 0).trans rfl
                  have gx : gv.cell? ⟨ad, 1, none⟩ = some (.int .i64 ((rd_T30 (rd_L2 aa ac) (af)).f1)) := (blk_cell aj.out 1).trans rfl
                  have gy := blk_frozen aj.out 0; have gz := blk_frozen aj.out 1
                  try go_wp2_with (first | ((with_reducible refine gate_builtin (b := .append) (xs := #[.tmp 71, .tmp 77]) rfl ?_); at_builtin; refine Kd.R_append k78 (w0 := w) w.heap.size rfl (.tmp 71) (.tmp 77) 50 78 (.agg #[(.int .i64 0), (.int .i64 0), (.int .i64 0)]) 24 rfl Try.underlying50 info78 rfl (by decide) (by omega) u9 bf (⟨(rd_T30 (rd_L2 aa ac) (af)).f0, ac, aq⟩ : S78) [.int .i64 ((rd_T30 (rd_L2 aa ac) (af)).f0), .int .i64 ac, .int .i64 aq] (fun _ => True) (fun _ => False) rfl rfl ?aP (fun _ hk => hk.elim) ?aF ?aO ?aB ?aS ?aL ?_; (case aP => exact k78_mkM _ _ _ (⟨(rd_T30 (rd_L2 aa ac) (af)).f0, ac, aq⟩ : S78)); (case aB => exact (zb HB)); (case aF => exact (fun _ _ => trivial)); (case aO => exact (zR aC)); (case aS => exact (below_size (zb HB))); (case aL => have := f5.out; omega); intro v876 w115 ho hb hg hat; rw [← Ny875.out] at ho; have aV := zK (blk_grown (g := ao) (o := .cells #[.int .i64 a0_0, .slice aH ar.length aI] 24 (0, 0)) (zk ag) hg (Kd.R_ne aC.out ag.out (by decide))); have aW := zK (blk_grown (g := an) (o := .cells #[.int .i64 am, .slice none 0 0] 24 (0, 0)) (zk ai) hg (Kd.R_ne aC.out ai.out (by decide))); have aX := zK (blk_grown (g := ap) (o := .cells #[.int .i64 aD, .slice (some ⟨aY, 0, none⟩) aa.length bb] 24 (0, 0)) (zk ah) hg (Kd.R_ne aC.out ah.out (by decide))); have a0 := zK (blk_grown (g := ad) (o := .cells #[.int .i64 ((rd_T30 (rd_L2 aa ac) (af)).f0), .int .i64 ((rd_T30 (rd_L2 aa ac) (af)).f1)] 30 (0, 0)) (zk aj) hg (Kd.R_ne aC.out aj.out (by decide))); have a6 := zK (Kd.S_over' (zT ab) (Kd.R_typed (zR aC)) (by decide) hg); have a7 := zK (hb); have bg := zK (ho); clear ag; clear ai; clear ah; clear aj; clear ab; clear HB; clear aC; have ag := aV; have ai := aW; have ah := aX; have aj := a0; have ab := a6; have HB := a7; have gA := bg; clear aV aW aX a0 a6 a7 bg; clear ho hb hg hat))
                  go_roundg k2
                  case measure => have := HJ3.out; have := HK2.out; omega
                  case rel => exact ⟨(f6), (am), (em), (.slice (some ⟨aY, 0, none⟩) aa.length bb), H', ⟨by have := HJ3.out; have := HK2.out; omega⟩, ⟨zR gA⟩, ⟨by (with_reducible repeat (first | apply Kd.S_alloc | apply Kd.S_drewN | apply Kd.S_drew)); exact Kd.S_mono ab.out (fun _ hk => trivial)⟩, ⟨zk ag⟩, ⟨zk ai⟩, ⟨zk ah⟩, ⟨zb HB⟩⟩
                 ·rw [if_neg c89] at H
                  exact absurd H (by simp)
                ·rw [if_neg c87] at H
                 exact absurd H (by simp)
              ·rw [if_neg c85] at H
               exact absurd H (by simp)
             ·rw [if_neg c84] at H
              exact absurd H (by simp)
            ·rw [if_neg f3] at H
             exact absurd H (by simp)
         ·rw [if_neg c38] at H
          exact absurd H (by simp)
        ·rw [if_neg c37] at H
         exact absurd H (by simp)
       ·rw [if_neg c35] at H
        exact absurd H (by simp)
      ·rw [if_neg c34] at H
       exact absurd H (by simp)
end Go.Proofs.Ytheckjlldkkceaa.Px
